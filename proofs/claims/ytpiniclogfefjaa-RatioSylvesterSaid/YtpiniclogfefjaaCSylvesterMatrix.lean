import Derived.Test.YtpiniclogfefjaaJSylvester32
namespace Wx
set_option maxRecDepth 100000
open Go Go.RowKit Go.Proofs
set_option linter.unusedVariables false

theorem r_reduceW {H:List Bk} {L1 L2:List Rat} {b1 b2 s1 s2 n1 n2 c1 c2 p1 p2 j j2 jf:Nat} {f:Rat} (m1:(⟨b1,3,true,Qw L1 p1⟩:Bk)∈H) (m2:(⟨b2,3,true,Qw L2 p2⟩:Bk)∈H) (hne:b2≠b1) (k1:s1+n1≤L1.length) (k2:s2+n2≤L2.length) (k12:n2≤n1) (kn:n1≤1000000) (q1:∀k,k<n1→BdR j (L1.getD (s1+k) 0)) (q2:∀k,k<n2→BdR j2 (L2.getD (s2+k) 0)) (qf:BdR jf f) (hj:j+(jf+j2)+j+(jf+j2)+1≤100000000):∀(M:Nat→Nat→Prop) (B:Nat→Prop) (w:World) (v0 v1 v2:Value),Mid M w→(∀k,B k→∀o,¬M k o)→HpOk B w H→Box (Jg M B) (fun w=>(Qe (.slice (some ⟨b1,s1*3,none⟩) n1 c1)) w v0) w→Box (Jg M B) (fun w=>(Qe (.slice (some ⟨b2,s2*3,none⟩) n2 c2)) w v1) w→Box (Jg M B) (fun w=>(Qk f) w v2) w→Calls Try.prog 47 #[v0,v1,v2] w (RetL M B (Qe (.tuple #[])) (Y0 H b1 (Qw (if f=0 then L1 else Xz L1 s1 L2 s2 f n2) p1)) w):=by
 intro M B w0 v0 v1 v2 hM hBM hH hv0 hv1 hv2
 have hu1:∀e,e∈H→e.b=b1→e.items=Qw L1 p1:=fun e he hb=>Qd4 hH he m1 hb
 refine Qdz (N:=29) (id:=29) (s:=29) Try.func47 rfl rfl rfl hM hBM hH (show EntsA (Jg M B) w0 [v0,v1,v2] [⟨none,none,0,Qe (.slice (some ⟨b1,s1*3,none⟩) n1 c1)⟩,⟨none,none,1,Qe (.slice (some ⟨b2,s2*3,none⟩) n2 c2)⟩,⟨none,none,2,Qk f⟩]from⟨⟨rfl,_,rfl,hv0⟩,⟨rfl,_,rfl,hv1⟩,⟨rfl,_,rfl,hv2⟩,trivial⟩) fun a hI=>?_
 refine Qh hI [⟨5,5,some 0,none,.ptr,32,3,true,pv (Qk f),[]⟩] [] [] (.k .z) (.kkk .z) rfl [0] (by kernel_rfl) ?_ (.k (.k .z)) (.kkd .z) fun a w hI=>?_
 ·exact⟨op_box 1 rfl rfl (by kernel_rfl) (by kernel_rfl) rfl rfl rfl (.tmp 2 rfl rfl) (Xb _) rfl,trivial⟩
 refine wp_seq ?_
 refine Qh hI [] [] [⟨some 0,none,8,Qk f⟩,⟨some 1,none,9,pB (decide (f=0))⟩] (.k (.k .z)) (.kk .z) rfl [0,1] (by kernel_rfl) ?_ (.k (.k .z)) (.kkdk .z) fun a w hI=>?_
 ·exact⟨Yg 1 rfl rfl rfl rfl (by kernel_rfl) Qr rfl (.here 2 rfl),Y2 (fun _ _=>by kernel_rfl) (Xt _) (.tmp 2 rfl rfl) (.here 3 rfl) (Uo f),trivial⟩
 refine Xd hI 2 rfl (fun ht=>?_) (fun ht=>?_)
 ·have t1:=of_decide_eq_true ht
  refine wp_ret ?_
  refine X7 ?_
  have hI:Inv ⟨29,w0,M,B⟩ [⟨29,29,none,none,.obj,0,0,false,Zj (Y0 H b1 (Qw (if f=0 then L1 else Xz L1 s1 L2 s2 f n2) p1)),[]⟩,⟨5,5,none,none,.ptr,32,3,true,pv (Qk f),[]⟩] [] [⟨none,none,0,Qe (.slice (some ⟨b1,s1*3,none⟩) n1 c1)⟩,⟨none,none,1,Qe (.slice (some ⟨b2,s2*3,none⟩) n2 c2)⟩,⟨none,none,9,pB (decide (f=0))⟩] Qf _ _:=(hI.conv ⟨⟨0,_,_,rfl,⟨rfl,rfl,rfl⟩,rfl,fun _=>(pHp_eq (by rw[if_pos t1]; exact(Kw hu1).symm))⟩,⟨1,_,_,rfl,⟨rfl,rfl,rfl⟩,rfl,fun _=>fun _ _ h=>h⟩,trivial⟩ ⟨⟨rfl,rfl,0,_,rfl,fun _ _ h=>h⟩,⟨rfl,rfl,1,_,rfl,fun _ _ h=>h⟩,⟨rfl,rfl,2,_,rfl,fun _ _ h=>h⟩,trivial⟩)
  exact finL0 hI rfl hH (n0:=0) rfl (hup_b _ _ _) 
 ·have t2:=of_decide_eq_false ht
  refine wp_skip ?_
  refine Qi ?_
  refine Qh hI [] [] [⟨some 0,none,10,Qe (.slice (some ⟨b2,s2*3,none⟩) n2 c2)⟩,⟨some 1,none,11,pI (n2:Int)⟩,⟨some 2,none,12,pI 0⟩] (.k (.k .z)) (.kkk .z) rfl [0,1,3] (by kernel_rfl) ?_ (.k (.k .z)) (.kddk (.kk .z)) fun a w hI=>?_
  ·exact⟨Qa (.tmp 1 rfl rfl) (.here 3 rfl),Js (.tmp 3 rfl rfl) (Qy).under (.here 4 rfl),Qa (.const _) (.here 5 rfl),trivial⟩
  refine wp_block ?_
  refine Xn (fun(k:Nat) a w=>(k≤n2)∧Inv ⟨29,w0,M,B⟩ [⟨29,29,none,none,.obj,0,0,false,Zj (Y0 H b1 (Qw (Xz L1 s1 L2 s2 f k) p1)),[]⟩,⟨5,5,none,none,.ptr,32,3,true,pv (Qk f),[]⟩] [] [⟨none,none,0,Qe (.slice (some ⟨b1,s1*3,none⟩) n1 c1)⟩,⟨none,none,10,Qe (.slice (some ⟨b2,s2*3,none⟩) n2 c2)⟩,⟨none,none,11,pI (n2:Int)⟩,⟨none,none,12,pI (k:Int)⟩] Qf a w) (fun(k:Nat)=>n2-k) (0) ⟨Nat.zero_le _,(hI.conv ⟨⟨0,_,_,rfl,⟨rfl,rfl,rfl⟩,rfl,fun _=>(pHp_eq (by rw[redAt_zero]; exact(Kw hu1).symm))⟩,⟨1,_,_,rfl,⟨rfl,rfl,rfl⟩,rfl,fun _=>fun _ _ h=>h⟩,trivial⟩ ⟨⟨rfl,rfl,0,_,rfl,fun _ _ h=>h⟩,⟨rfl,rfl,1,_,rfl,fun _ _ h=>h⟩,⟨rfl,rfl,2,_,rfl,fun _ _ h=>h⟩,⟨rfl,rfl,3,_,rfl,(Xa (by omega))⟩,trivial⟩)⟩ ?_
  intro k a w hIk
  obtain⟨hp,hI⟩:=hIk
  refine Qh hI [] [] [⟨some 0,none,13,pB (decide ((k:Int)<(n2:Int)))⟩] (.k (.k .z)) (.kkkk .z) rfl [0] (by kernel_rfl) ?_ (.k (.k .z)) (.kkkk (.k .z)) fun a w hI=>?_
  ·exact⟨Qo (v:=.bool (decide ((k:Int)<(n2:Int)))) (.tmp 3 rfl rfl) (.tmp 2 rfl rfl) (fun _=>rfl) (.here 4 rfl),trivial⟩
  refine wp_seq ?_
  refine Xd hI 4 rfl (fun ht=>?_) (fun ht=>?_)
  ·have t3:=of_decide_eq_true ht
   refine wp_skip ?_
   refine Qi ?_
   refine wp_seq ?_
   refine wp_block ?_
   refine Qh hI [⟨7,7,some 3,none,.ptr,32,3,true,pv (Qk 0),[(5,pv (Qk (L2.getD (s2+k) 0)))]⟩] [] [⟨some 0,none,14,pI (k:Int)⟩,⟨some 1,none,15,Qe (.pointer (some ⟨b2,s2*3+((k:Int)).toNat*3,none⟩))⟩,⟨some 2,none,16,Qk (L2.getD (s2+k) 0)⟩,⟨some 4,none,6,pI (k:Int)⟩] (.k (.k .z)) (.kkkk (.k .z)) rfl [0,1,3,7,15,31] (by kernel_rfl) ?_ (.k (.k (.s .o .z))) (.k8 (.k .z)) fun a w hI=>?_
   ·exact⟨Qa (.tmp 3 rfl rfl) (.here 5 rfl),Qs (.tmp 1 rfl rfl) (.tmp 3 rfl rfl) Qy (by omega) (by omega) (by kernel_rfl) (.here 6 rfl),Q5 (e:=⟨b2,3,true,Qw L2 p2⟩) (idx:=s2+k) 0 rfl rfl rfl (by kernel_rfl) rfl (.tmp 6 rfl rfl) (K7 m2 hne) rfl (X5 (by omega)) (show s2*3+((k:Int)).toNat*3=(s2+k)*3 by omega) Qr (.here 7 rfl),J4 2 rfl rfl (by kernel_rfl) (by kernel_rfl) rfl rfl rfl Jj rfl rfl (by simp[Yr]) rfl (fun w=>Yl w),Qc (.tmp 5 rfl rfl) (.here 8 rfl),Zo 2 rfl rfl rfl rfl 0 rfl (by kernel_rfl) (by kernel_rfl) Qr (.tmp 7 rfl rfl) (Xb _),trivial⟩
   refine sem_D hI [] [] [⟨some 0,none,17,Qe (.slice (some ⟨b1,s1*3,none⟩) n1 c1)⟩,⟨some 1,none,18,pI (k:Int)⟩,⟨some 2,none,19,Qe (.slice (some ⟨b1,s1*3,none⟩) n1 c1)⟩,⟨some 3,none,20,pI (k:Int)⟩,⟨some 4,none,21,Qe (.pointer (some ⟨b1,s1*3+((k:Int)).toNat*3,none⟩))⟩,⟨some 5,none,22,Qk (L1.getD (s1+k) 0)⟩,⟨some 6,none,23,Qk f⟩,⟨some 7,none,24,Qk (L2.getD (s2+k) 0)⟩,⟨some 8,none,25,Qk (f*(L2.getD (s2+k) 0))⟩,⟨some 9,none,26,Qk ((L1.getD (s1+k) 0)-(f*(L2.getD (s2+k) 0)))⟩,⟨some 10,none,27,Qe (.pointer (some ⟨b1,s1*3+((k:Int)).toNat*3,none⟩))⟩] (.u none [(11,Zj (Xs (Y0 H b1 (Qw (Xz L1 s1 L2 s2 f k) p1)) b1 (s1+k) (Zl ((L1.getD (s1+k) 0)-(f*(L2.getD (s2+k) 0))))))] (.k (.k .z))) (.k8 (.k .z)) rfl [0,0,0,0,12,28,0,0,192,508,1023,2047] (by kernel_rfl) ?_ (.s .o (.k (.k .z))) (.k8 (.k8 (.kkkk .z))) fun a w hI=>?_
   ·exact⟨Qa (.tmp 0 rfl rfl) (.here 9 rfl),Qa (.tmp 8 rfl rfl) (.here 10 rfl),Qa (.tmp 0 rfl rfl) (.here 11 rfl),Qa (.tmp 8 rfl rfl) (.here 12 rfl),Qs (.tmp 11 rfl rfl) (.tmp 12 rfl rfl) Qy (by omega) (by omega) (by kernel_rfl) (.here 13 rfl),Q5 (e:=⟨b1,3,true,Qw (Xz L1 s1 L2 s2 f k) p1⟩) (idx:=s1+k) 0 rfl rfl rfl (by kernel_rfl) rfl (.tmp 13 rfl rfl) (U7 m1 rfl) rfl (redAt_item (by omega)) (show s1*3+((k:Int)).toNat*3=(s1+k)*3 by omega) Qr (.here 14 rfl),Yg 1 rfl rfl rfl rfl (by kernel_rfl) Qr rfl (.here 15 rfl),Yg 2 rfl rfl rfl rfl (by kernel_rfl) Qr rfl (.here 16 rfl),Y6 (fun _ _=>by kernel_rfl) (Xr _) (.tmp 15 rfl rfl) (.tmp 16 rfl rfl) (.here 17 rfl) (c_mul qf (q2 k (by omega)) (by omega)),Y6 (fun _ _=>by kernel_rfl) (Xr _) (.tmp 14 rfl rfl) (.tmp 17 rfl rfl) (.here 18 rfl) (c_sub (q1 k (by omega)) ((qf).mul (q2 k (by omega))) (by omega)),Qs (.tmp 9 rfl rfl) (.tmp 10 rfl rfl) Qy (by omega) (by omega) (by kernel_rfl) (.here 19 rfl),Zx (e:=⟨b1,3,true,Qw (Xz L1 s1 L2 s2 f k) p1⟩) (idx:=s1+k) (it:=Zl ((L1.getD (s1+k) 0)-(f*(L2.getD (s2+k) 0)))) 0 rfl rfl rfl (by kernel_rfl) 0 rfl (by kernel_rfl) (by kernel_rfl) rfl (.tmp 19 rfl rfl) (U7 m1 rfl) rfl (Vd (show s1+k<(Xz L1 s1 L2 s2 f k).length by rw[J1]; omega)) (show s1*3+((k:Int)).toNat*3=(s1+k)*3 by omega) Qr (.tmp 18 rfl rfl) (Xb _),trivial⟩
   refine Xw ?_
   refine Qi ?_
   refine Yx hI [] [] [⟨some 0,none,28,pI ((k:Int)+(1:Int))⟩,⟨some 1,none,12,pI ((k:Int)+(1:Int))⟩] (.k (.k (.k .z))) (.kkk (.t 1 (.k8 (.k8 .z)))) rfl [0,1] (by kernel_rfl) ?_ (.k (.k (.k .z))) (.kkkd (.k8 (.k8 (.kk .z)))) fun a w hI=>?_
   ·exact⟨Qo (v:=.int .i64 (IntKind.i64.wrap ((k:Int)+(1:Int)))) (.tmp 3 rfl rfl) (.const _) (fun _=>rfl) (.at_ 20 _ _ rfl (Xe (by omega))),Qa (.tmp 20 rfl rfl) (.here 21 rfl),trivial⟩
   refine Qi ?_
   exact⟨k+1,⟨(show k+1≤n2 by omega),(hI.conv ⟨⟨0,_,_,rfl,⟨rfl,rfl,rfl⟩,rfl,fun _=>(pHp_eq (by rw[Kv,Ve (by rw[J1]; omega),redAt_step (by omega)]))⟩,⟨1,_,_,rfl,⟨rfl,rfl,rfl⟩,rfl,fun _=>fun _ _ h=>h⟩,trivial⟩ ⟨⟨rfl,rfl,0,_,rfl,fun _ _ h=>h⟩,⟨rfl,rfl,1,_,rfl,fun _ _ h=>h⟩,⟨rfl,rfl,2,_,rfl,fun _ _ h=>h⟩,⟨rfl,rfl,20,_,rfl,(Xa (by omega))⟩,trivial⟩)⟩,(show n2-(k+1)<n2-k by omega)⟩
  ·have t4:=of_decide_eq_false ht
   refine wp_exit ?_
   refine Qz ?_
   refine Qz ?_
   refine Xl ?_
   have hI:Inv ⟨29,w0,M,B⟩ [⟨29,29,none,none,.obj,0,0,false,Zj (Y0 H b1 (Qw (if f=0 then L1 else Xz L1 s1 L2 s2 f n2) p1)),[]⟩,⟨5,5,none,none,.ptr,32,3,true,pv (Qk f),[]⟩] [] [⟨none,none,0,Qe (.slice (some ⟨b1,s1*3,none⟩) n1 c1)⟩,⟨none,none,10,Qe (.slice (some ⟨b2,s2*3,none⟩) n2 c2)⟩,⟨none,none,11,pI (n2:Int)⟩,⟨none,none,12,pI (k:Int)⟩,⟨none,none,13,pB (decide ((k:Int)<(n2:Int)))⟩] Qf _ _:=(hI.conv ⟨⟨0,_,_,rfl,⟨rfl,rfl,rfl⟩,rfl,fun _=>(pHp_eq (by rw[if_neg t2,show k=n2 by omega]))⟩,⟨1,_,_,rfl,⟨rfl,rfl,rfl⟩,rfl,fun _=>fun _ _ h=>h⟩,trivial⟩ ⟨⟨rfl,rfl,0,_,rfl,fun _ _ h=>h⟩,⟨rfl,rfl,1,_,rfl,fun _ _ h=>h⟩,⟨rfl,rfl,2,_,rfl,fun _ _ h=>h⟩,⟨rfl,rfl,3,_,rfl,fun _ _ h=>h⟩,⟨rfl,rfl,4,_,rfl,fun _ _ h=>h⟩,trivial⟩)
   exact finL0 hI rfl hH (n0:=0) rfl (hup_b _ _ _) 
theorem r_reduce {H:List Bk} {L1 L2:List Rat} {b1 b2 s1 s2 n1 n2 c1 c2 p1 p2 j j2 jf:Nat} {f:Rat} (m1:(⟨b1,3,true,Qw L1 p1⟩:Bk)∈H) (m2:(⟨b2,3,true,Qw L2 p2⟩:Bk)∈H) (hne:b2≠b1) (k1:s1+n1≤L1.length) (k2:s2+n2≤L2.length) (k12:n2≤n1) (kn:n1≤1000000) (q1:∀x,x∈L1→BdR j x) (q2:∀x,x∈L2→BdR j2 x) (qf:BdR jf f) (hj:j+(jf+j2)+j+(jf+j2)+1≤100000000):∀(M:Nat→Nat→Prop) (B:Nat→Prop) (w:World) (v0 v1 v2:Value),Mid M w→(∀k,B k→∀o,¬M k o)→HpOk B w H→Box (Jg M B) (fun w=>(Qe (.slice (some ⟨b1,s1*3,none⟩) n1 c1)) w v0) w→Box (Jg M B) (fun w=>(Qe (.slice (some ⟨b2,s2*3,none⟩) n2 c2)) w v1) w→Box (Jg M B) (fun w=>(Qk f) w v2) w→Calls Try.prog 47 #[v0,v1,v2] w (RetL M B (Qe (.tuple #[])) (Y0 H b1 (Qw (if f=0 then L1 else Xz L1 s1 L2 s2 f n2) p1)) w):=
 r_reduceW m1 m2 hne k1 k2 k12 kn (fun k hk=>bd_getD q1 (by omega)) (fun k hk=>bd_getD q2 (by omega)) qf hj
theorem Zf (l:List Rat):Jn 1 false (Qd l):=by
 rintro w v ⟨A,c,rfl,_⟩
 exact⟨[_],rfl,rfl,rfl,fun u hu=>by simp at hu; subst hu; exact⟨Kp _ _ _,rfl⟩⟩
theorem pEq_to {u v:Value} (h:u=v):∀w x,Qe u w x→Qe v w x:=fun _ _ k=>h▸k
theorem c_pivot1 {l:List Rat} {c j:Nat} (hc:c<l.length) (hl:c≤1000000000) (hb:∀x,x∈l→BdR j x):∀(M:Nat→Nat→Prop) (w:World) (v0 v1:Value),Mid M w→Box M (fun w=>(Qd l) w v0) w→Box M (fun w=>(Zc 1 false (pI (c:Int))) w v1) w→Calls Try.prog 71 #[v0,v1] w (RetB M (pB (!(decide ((l).getD c 0=0)))) w):=by
 intro M w0 v0 v1 hM hv0 hv1
 refine Zq (N:=10) Try.func71 rfl rfl rfl hM (show EntsA M w0 [v0,v1] [⟨none,none,0,Qd l⟩,⟨none,none,1,Zc 1 false (pI (c:Int))⟩]from⟨⟨rfl,_,rfl,hv0⟩,⟨rfl,_,rfl,hv1⟩,trivial⟩) fun a hI=>?_
 refine Qh hI [] [] [⟨some 0,none,3,pB false⟩] .z (.kk .z) rfl [0] (by kernel_rfl) ?_ .z (.kkk .z) fun a w hI=>?_
 ·exact⟨Qc (.const _) (.here 2 rfl),trivial⟩
 refine Qh hI [] [] [⟨some 0,none,4,Qd l⟩,⟨some 1,none,5,pI (c:Int)⟩,⟨some 2,none,6,Zc 3 true (Qk ((l).getD c 0))⟩,⟨some 3,none,7,Qk ((l).getD c 0)⟩,⟨some 4,none,8,pB (decide ((l).getD c 0=0))⟩,⟨some 5,none,9,pB (!(decide ((l).getD c 0=0)))⟩,⟨some 6,none,3,pB (!(decide ((l).getD c 0=0)))⟩] .z (.kk (.t 6 .z)) rfl [0,1,3,7,15,31,63] (by kernel_rfl) ?_ .z (.d8 (.dk .z)) fun a w hI=>?_
 ·exact⟨Qa (.tmp 0 rfl rfl) (.here 3 rfl),op_loadEq (.tmp 1 rfl rfl) ty_int (.here 4 rfl),Xi (.tmp 3 rfl rfl) (.tmp 4 rfl rfl) Qy (by omega) (by omega) (by kernel_rfl) (.at_ 5 _ _ rfl (by rw[Int.toNat_natCast]; exact fun _ _ h=>h)),X6 (.tmp 5 rfl rfl) Qr (Xb _) (.here 6 rfl),Y2 (fun _ _=>by kernel_rfl) (Xt _) (.tmp 6 rfl rfl) (.here 7 rfl) (Uo ((l).getD c 0)),Vw (.tmp 7 rfl rfl) (.here 8 rfl),Qc (.tmp 8 rfl rfl) (.here 9 rfl),trivial⟩
 refine wp_ret ?_
 exact W5 hI rfl (.tmp 0 rfl)
theorem c_indexPivot {X:Nat→List Rat} {n c j:Nat} (hn:n≤1000000) (hc:∀i,i<n→c<(X i).length) (hl:c≤1000000000) (hb:∀i,i<n→∀x,x∈X i→BdR j x):∀(M:Nat→Nat→Prop) (w:World) (v0 v1:Value),Mid M w→Box M (fun w=>(Qg 1 false n (fun i=>Qd (X i))) w v0) w→Box M (fun w=>(Uz 71 1 false (pI (c:Int))) w v1) w→Calls Try.prog 70 #[v0,v1] w (RetB M (pI (Z1 (fun i=>!(decide ((X i).getD c 0=0))) n)) w):=by
 intro M w0 v0 v1 hM hv0 hv1
 refine Zq (N:=19) Try.func70 rfl rfl rfl hM (show EntsA M w0 [v0,v1] [⟨none,none,0,Qg 1 false n (fun i=>Qd (X i))⟩,⟨none,none,1,Uz 71 1 false (pI (c:Int))⟩]from⟨⟨rfl,_,rfl,hv0⟩,⟨rfl,_,rfl,hv1⟩,trivial⟩) fun a hI=>?_
 refine Qh hI [] [] [⟨some 0,none,4,pI 0⟩] .z (.kk .z) rfl [0] (by kernel_rfl) ?_ .z (.kkk .z) fun a w hI=>?_
 ·exact⟨Qc (.const _) (.here 2 rfl),trivial⟩
 refine wp_seq ?_
 refine Qh hI [] [] [⟨some 0,none,6,Qg 1 false n (fun i=>Qd (X i))⟩,⟨some 1,none,7,pI (n:Int)⟩,⟨some 2,none,8,pI 0⟩] .z (.kkk .z) rfl [0,1,3] (by kernel_rfl) ?_ .z (.kkkd (.kk .z)) fun a w hI=>?_
 ·exact⟨Qa (.tmp 0 rfl rfl) (.here 3 rfl),Yy (.tmp 3 rfl rfl) (Qx).under (.here 4 rfl),Qa (.const _) (.here 5 rfl),trivial⟩
 refine wp_block ?_
 refine Xn (fun(k:Nat) a w=>(k≤n∧∀q,q<k→(!(decide ((X q).getD c 0=0)))=false)∧Inv ⟨19,w0,M,fun _=>False⟩ [] [] [⟨none,none,0,Qg 1 false n (fun i=>Qd (X i))⟩,⟨none,none,1,Uz 71 1 false (pI (c:Int))⟩,⟨none,none,7,pI (n:Int)⟩,⟨none,none,8,pI (k:Int)⟩] Qf a w) (fun(k:Nat)=>n-k) (0) ⟨⟨Nat.zero_le _,fun q hq=>by omega⟩,(hI.conv trivial ⟨⟨rfl,rfl,0,_,rfl,fun _ _ h=>h⟩,⟨rfl,rfl,1,_,rfl,fun _ _ h=>h⟩,⟨rfl,rfl,3,_,rfl,fun _ _ h=>h⟩,⟨rfl,rfl,4,_,rfl,(Xa (by omega))⟩,trivial⟩)⟩ ?_
 intro k a w hIk
 obtain⟨hp,hI⟩:=hIk
 refine Qh hI [] [] [⟨some 0,none,9,pB (decide ((k:Int)<(n:Int)))⟩] .z (.kkkk .z) rfl [0] (by kernel_rfl) ?_ .z (.kkkk (.k .z)) fun a w hI=>?_
 ·exact⟨Qo (v:=.bool (decide ((k:Int)<(n:Int)))) (.tmp 3 rfl rfl) (.tmp 2 rfl rfl) (fun _=>rfl) (.here 4 rfl),trivial⟩
 refine wp_seq ?_
 refine Xd hI 4 rfl (fun ht=>?_) (fun ht=>?_)
 ·have t1:=of_decide_eq_true ht
  refine wp_skip ?_
  refine Qi ?_
  refine wp_seq ?_
  refine wp_block ?_
  refine Qh hI [] [] [⟨some 0,none,10,pI (k:Int)⟩,⟨some 1,none,5,pI (k:Int)⟩] .z (.kkkk (.k .z)) rfl [0,1] (by kernel_rfl) ?_ .z (.kkkk (.kkk .z)) fun a w hI=>?_
  ·exact⟨Qa (.tmp 3 rfl rfl) (.here 5 rfl),Qc (.tmp 5 rfl rfl) (.here 6 rfl),trivial⟩
  refine Qh hI [] [] [⟨some 0,none,11,Uz 71 1 false (pI (c:Int))⟩,⟨some 1,none,12,Qg 1 false n (fun i=>Qd (X i))⟩,⟨some 2,none,13,pI (k:Int)⟩,⟨some 3,none,14,Zc 1 false (Qd (X k))⟩,⟨some 4,none,15,Qd (X k)⟩,⟨some 5,none,16,pB (!(decide ((X k).getD c 0=0)))⟩] .z (.kkkk (.kkk .z)) rfl [0,1,3,7,15,31] (by kernel_rfl) ?_ .z (.k8 (.kkkk (.k .z))) fun a w hI=>?_
  ·exact⟨Qa (.tmp 1 rfl rfl) (.here 7 rfl),Qa (.tmp 0 rfl rfl) (.here 8 rfl),Qa (.tmp 6 rfl rfl) (.here 9 rfl),Xi (.tmp 8 rfl rfl) (.tmp 9 rfl rfl) Qx (by omega) (by omega) (by kernel_rfl) (.at_ 10 _ _ rfl (by rw[Int.toNat_natCast]; exact fun _ _ h=>h)),X6 (.tmp 10 rfl rfl) Q1 ((Zf _)) (.here 11 rfl),op_callc1 (fun _ _=>by kernel_rfl) (.tmp 7 rfl rfl) (.tmp 11 rfl rfl) (.here 12 rfl) (c_pivot1 (hc _ (by omega)) hl (hb _ (by omega))),trivial⟩
  refine Xd hI 12 rfl (fun ht=>?_) (fun ht=>?_)
  ·have t2:=ht
   refine Qh hI [] [] [⟨some 0,none,17,pI (k:Int)⟩,⟨some 1,none,4,pI (k:Int)⟩] .z (.k8 (.kkkk (.k .z))) rfl [0,1] (by kernel_rfl) ?_ .z (.k8 (.kkkk (.kkk .z))) fun a w hI=>?_
   ·exact⟨Qa (.tmp 6 rfl rfl) (.here 13 rfl),Qc (.tmp 13 rfl rfl) (.here 14 rfl),trivial⟩
   refine wp_ret ?_
   refine Ze ?_
   refine X7 ?_
   refine X7 ?_
   refine Ze ?_
   refine X7 ?_
   exact W5 hI rfl (.imp (.tmp 14 rfl) (Xa (firstI_yes (p:=fun i=>!(decide ((X i).getD c 0=0))) (by omega) t2 hp.2).symm))
  ·have t3:=ht
   refine wp_skip ?_
   refine Xw ?_
   refine Qi ?_
   refine Yx hI [] [] [⟨some 0,none,18,pI ((k:Int)+(1:Int))⟩,⟨some 1,none,8,pI ((k:Int)+(1:Int))⟩] .z (.kkk (.t 1 (.k8 (.k .z)))) rfl [0,1] (by kernel_rfl) ?_ .z (.kkkd (.k8 (.kkk .z))) fun a w hI=>?_
   ·exact⟨Qo (v:=.int .i64 (IntKind.i64.wrap ((k:Int)+(1:Int)))) (.tmp 3 rfl rfl) (.const _) (fun _=>rfl) (.at_ 13 _ _ rfl (Xe (by omega))),Qa (.tmp 13 rfl rfl) (.here 14 rfl),trivial⟩
   refine Qi ?_
   exact⟨k+1,⟨⟨by omega,fun q hq=>by rcases Nat.lt_or_ge q k with h|h; exact hp.2 q h; rw[show q=k by omega]; exact t3⟩,(hI.conv trivial ⟨⟨rfl,rfl,0,_,rfl,fun _ _ h=>h⟩,⟨rfl,rfl,1,_,rfl,fun _ _ h=>h⟩,⟨rfl,rfl,2,_,rfl,fun _ _ h=>h⟩,⟨rfl,rfl,13,_,rfl,(Xa (by omega))⟩,trivial⟩)⟩,(show n-(k+1)<n-k by omega)⟩
 ·have t4:=of_decide_eq_false ht
  refine wp_exit ?_
  refine Qz ?_
  refine Qz ?_
  refine Xl ?_
  refine Qi ?_
  refine Qh hI [] [] [⟨some 0,none,4,pI (-1)⟩] .z (.kkkk (.k .z)) rfl [0] (by kernel_rfl) ?_ .z (.dddd (.dk .z)) fun a w hI=>?_
  ·exact⟨Qc (.const _) (.here 5 rfl),trivial⟩
  refine wp_ret ?_
  exact W5 hI rfl (.imp (.tmp 0 rfl) (Xa (Qd3 (fun j hj=>hp.2 j (by omega))).symm))
theorem r_pivot {H:List Bk} {g cap c j:Nat} {R:List RowL} {X:List (List Rat)} (hM0:MatOk g cap R X H) (hc:c<X.length) (hn:X.length≤1000000) (hcol:∀i,i<X.length→c<(X.getD i []).length) (hb:∀i,i<X.length→∀x,x∈X.getD i []→BdR j x):∀(M:Nat→Nat→Prop) (B:Nat→Prop) (w:World) (v0 v1:Value),Mid M w→(∀k,B k→∀o,¬M k o)→HpOk B w H→Box (Jg M B) (fun w=>(Qe (.slice (some ⟨g,0,none⟩) X.length cap)) w v0) w→Box (Jg M B) (fun w=>(pI (c:Int)) w v1) w→Calls Try.prog 46 #[v0,v1] w (RetL M B (Zd (pB (decide (0≤Xh X c))) (pB (decide (Xh X c>0)))) (Y0 H g (Y7 (Yq X R c))) w):=by
 intro M B w0 v0 v1 hM hBM hH hv0 hv1
 have hu:∀e,e∈H→e.b=g→e.items=Y7 R:=fun e he hb'=>Qd4 hH he hM0.top hb'
 have hrg:_:=Wj hc
 have hlen:_:=hM0.len
 have hsz:_:=hM0.size
 refine Qdz (N:=34) (id:=34) (s:=34) Try.func46 rfl rfl rfl hM hBM hH (show EntsA (Jg M B) w0 [v0,v1] [⟨none,none,0,Qe (.slice (some ⟨g,0,none⟩) X.length cap)⟩,⟨none,none,1,pI (c:Int)⟩]from⟨⟨rfl,_,rfl,hv0⟩,⟨rfl,_,rfl,hv1⟩,trivial⟩) fun a hI=>?_
 refine Qh hI [⟨3,3,some 0,none,.ptr,3,1,false,pv (pI (c:Int)),[]⟩] [] [⟨some 1,none,4,pB false⟩,⟨some 2,none,5,pB false⟩] (.k .z) (.kk .z) rfl [0,1,3] (by kernel_rfl) ?_ (.k (.k .z)) (.kdkk .z) fun a w hI=>?_
 ·exact⟨op_box 1 rfl rfl (by kernel_rfl) (by kernel_rfl) rfl rfl rfl (.tmp 1 rfl rfl) (fits_int _) rfl,Qc (.const _) (.here 2 rfl),Qc (.const _) (.here 3 rfl),trivial⟩
 obtain⟨p3,hI⟩:=hI.openPtr 1 rfl rfl rfl
 refine Qh hI [] [] [⟨some 0,none,7,Qe (.slice (some ⟨g,0,none⟩) X.length cap)⟩,⟨some 1,none,8,pI (c:Int)⟩,⟨some 2,none,9,Qe (.slice (some ⟨g,c,none⟩) (X.length-c) (cap-c))⟩,⟨some 3,none,10,Qe (.func (.func 71) #[] #[.pointer (some ⟨p3,0,none⟩)])⟩,⟨some 4,none,11,pI (Xh X c)⟩,⟨some 5,none,6,pI (Xh X c)⟩] (.k (.k .z)) (.kkkk .z) rfl [0,1,3,7,15,31] (by kernel_rfl) ?_ (.k (.k .z)) (.kkkk (.dddd (.dk .z))) fun a w hI=>?_
 ·exact⟨Qa (.tmp 1 rfl rfl) (.here 4 rfl),Yg 1 rfl rfl rfl rfl (by kernel_rfl) ty_int rfl (.here 5 rfl),op_sliceLo (.tmp 4 rfl rfl) (.tmp 5 rfl rfl) Qx (by omega) (by omega) (by omega) (.at_ 6 _ _ rfl (pEq_to (by simp))),Qea (.tmp 0 rfl rfl) (.here 7 rfl),op_callRO (fun _ _=>by kernel_rfl) 0 rfl rfl rfl (by kernel_rfl) rfl 1 rfl rfl rfl (by kernel_rfl) rfl (.tmp 0 rfl rfl) (.tmp 6 rfl rfl) (.tmp 7 rfl rfl) (Xt _) (.here 8 rfl) (fun B w v hH hv=>by rw[show v=_ from hv]; exact Qb5 hH hM0 (Nat.le_of_lt hc)) (c_indexPivot (X:=fun i=>X.getD (c+i) []) (by omega) (fun i hi=>hcol (c+i) (by omega)) (by omega) (fun i hi=>hb (c+i) (by omega))),Qc (.tmp 8 rfl rfl) (.here 9 rfl),trivial⟩
 refine wp_seq ?_
 refine Qh hI [] [] [⟨some 0,none,12,pI (Xh X c)⟩,⟨some 1,none,13,pB (decide ((Xh X c)<(0:Int)))⟩] (.k (.k .z)) (.kkkk (.k .z)) rfl [0,1] (by kernel_rfl) ?_ (.k (.k .z)) (.kkkk (.kdk .z)) fun a w hI=>?_
 ·exact⟨Qa (.tmp 4 rfl rfl) (.here 5 rfl),Qo (v:=.bool (decide ((Xh X c)<(0:Int)))) (.tmp 5 rfl rfl) (.const _) (fun _=>rfl) (.here 6 rfl),trivial⟩
 refine Xd hI 5 rfl (fun ht=>?_) (fun ht=>?_)
 ·have t1:=of_decide_eq_true ht
  refine Qh hI [] [] [⟨some 0,none,4,pB false⟩,⟨some 1,none,5,pB false⟩] (.k (.k .z)) (.kk (.t 0 (.t 1 (.kk .z)))) rfl [0,1] (by kernel_rfl) ?_ (.k (.k .z)) (.kkdd (.kdkk .z)) fun a w hI=>?_
  ·exact⟨Qc (.const _) (.here 6 rfl),Qc (.const _) (.here 7 rfl),trivial⟩
  refine wp_ret ?_
  refine X7 ?_
  have hI:Inv ⟨34,w0,M,B⟩ [⟨34,34,none,none,.obj,0,0,false,Zj (Y0 H g (Y7 (Yq X R c))),[]⟩,⟨3,3,none,none,.ptr,3,1,false,pv (pI (c:Int)),[]⟩] [] [⟨none,none,3,Qe (.pointer (some ⟨p3,0,none⟩))⟩,⟨none,none,0,Qe (.slice (some ⟨g,0,none⟩) X.length cap)⟩,⟨none,none,6,pI (Xh X c)⟩,⟨none,none,4,pB false⟩,⟨none,none,5,pB false⟩] Qf _ _:=(hI.conv ⟨⟨0,_,_,rfl,⟨rfl,rfl,rfl⟩,rfl,fun _=>(pHp_eq (by unfold Yq; rw[if_pos (by omega)]; exact(Kw hu).symm))⟩,⟨1,_,_,rfl,⟨rfl,rfl,rfl⟩,rfl,fun _=>fun _ _ h=>h⟩,trivial⟩ ⟨⟨rfl,rfl,0,_,rfl,fun _ _ h=>h⟩,⟨rfl,rfl,1,_,rfl,fun _ _ h=>h⟩,⟨rfl,rfl,2,_,rfl,fun _ _ h=>h⟩,⟨rfl,rfl,3,_,rfl,fun _ _ h=>h⟩,⟨rfl,rfl,4,_,rfl,fun _ _ h=>h⟩,trivial⟩)
  exact finL2 hI rfl hH (n0:=0) rfl (hup_b _ _ _) (.imp (.tmp 3 rfl) (Zy (decide_eq_false (by omega)).symm)) (.imp (.tmp 4 rfl) (Zy (decide_eq_false (by omega)).symm))
 ·have t2:=of_decide_eq_false ht
  refine wp_skip ?_
  refine Qi ?_
  obtain⟨i0,hi0⟩:∃i0:Nat,Xh X c=(i0:Int):=⟨(Xh X c).toNat,by omega⟩
  obtain⟨x,hx⟩:=hM0.get hc
  obtain⟨y,hy⟩:=hM0.get (i:=c+i0) (by omega)
  refine seq_D hI [] [] [⟨some 0,none,14,Qe (.slice (some ⟨g,0,none⟩) X.length cap)⟩,⟨some 1,none,15,pI (c:Int)⟩,⟨some 2,none,16,Qe (.slice (some ⟨g,0,none⟩) X.length cap)⟩,⟨some 3,none,17,pI (c:Int)⟩,⟨some 4,none,18,pI (Xh X c)⟩,⟨some 5,none,19,pI ((c:Int)+(Xh X c))⟩,⟨some 6,none,20,Qe (.slice (some ⟨g,0,none⟩) X.length cap)⟩,⟨some 7,none,21,pI (c:Int)⟩,⟨some 8,none,22,pI (Xh X c)⟩,⟨some 9,none,23,pI ((c:Int)+(Xh X c))⟩,⟨some 10,none,24,Qe (.pointer (some ⟨g,0+(((c:Int)+(Xh X c))).toNat*1,none⟩))⟩,⟨some 11,none,25,Qe (.slice (some ⟨y.b,0,none⟩) y.n y.cap)⟩,⟨some 12,none,26,Qe (.slice (some ⟨g,0,none⟩) X.length cap)⟩,⟨some 13,none,27,pI (c:Int)⟩,⟨some 14,none,28,Qe (.pointer (some ⟨g,0+((c:Int)).toNat*1,none⟩))⟩,⟨some 15,none,29,Qe (.slice (some ⟨x.b,0,none⟩) x.n x.cap)⟩,⟨some 16,none,30,Qe (.pointer (some ⟨g,0+((c:Int)).toNat*1,none⟩))⟩,⟨some 18,none,31,Qe (.pointer (some ⟨g,0+(((c:Int)+(Xh X c))).toNat*1,none⟩))⟩] (.u none [(17,Zj (Xs H g c (Z2 y.hdr))),(19,Zj (Xs (Xs H g c (Z2 y.hdr)) g (c+i0) (Z2 x.hdr)))] (.k .z)) (.kkkk (.kk .z)) rfl [0,0,0,0,0,24,0,0,0,384,960,1984,0,0,12288,28672,65475,131011,262143,524287] (by kernel_rfl) ?_ (.s (.c .o) (.k .z)) (.ddkk (.kddd (.d8 (.d8 .z)))) fun a w hI=>?_
  ·exact⟨Qa (.tmp 1 rfl rfl) (.here 6 rfl),Yg 1 rfl rfl rfl rfl (by kernel_rfl) ty_int rfl (.here 7 rfl),Qa (.tmp 1 rfl rfl) (.here 8 rfl),Yg 1 rfl rfl rfl rfl (by kernel_rfl) ty_int rfl (.here 9 rfl),Qa (.tmp 4 rfl rfl) (.here 10 rfl),Qo (v:=.int .i64 (IntKind.i64.wrap ((c:Int)+(Xh X c)))) (.tmp 9 rfl rfl) (.tmp 10 rfl rfl) (fun _=>rfl) (.at_ 11 _ _ rfl (Xe (by omega))),Qa (.tmp 1 rfl rfl) (.here 12 rfl),Yg 1 rfl rfl rfl rfl (by kernel_rfl) ty_int rfl (.here 13 rfl),Qa (.tmp 4 rfl rfl) (.here 14 rfl),Qo (v:=.int .i64 (IntKind.i64.wrap ((c:Int)+(Xh X c)))) (.tmp 13 rfl rfl) (.tmp 14 rfl rfl) (fun _=>rfl) (.at_ 15 _ _ rfl (Xe (by omega))),Qs (.tmp 12 rfl rfl) (.tmp 15 rfl rfl) Qx (by omega) (by omega) (by kernel_rfl) (.here 16 rfl),Q5 (e:=⟨g,1,false,Y7 R⟩) (idx:=c+i0) 0 rfl rfl rfl (by kernel_rfl) rfl (.tmp 16 rfl rfl) hM0.top rfl (Ju hy) (show 0+(((c:Int)+(Xh X c))).toNat*1=(c+i0)*1 by omega) Q1 (.here 17 rfl),Qa (.tmp 1 rfl rfl) (.here 18 rfl),Yg 1 rfl rfl rfl rfl (by kernel_rfl) ty_int rfl (.here 19 rfl),Qs (.tmp 18 rfl rfl) (.tmp 19 rfl rfl) Qx (by omega) (by omega) (by kernel_rfl) (.here 20 rfl),Q5 (e:=⟨g,1,false,Y7 R⟩) (idx:=c) 0 rfl rfl rfl (by kernel_rfl) rfl (.tmp 20 rfl rfl) hM0.top rfl (Ju hx) (show 0+((c:Int)).toNat*1=(c)*1 by omega) Q1 (.here 21 rfl),Qs (.tmp 6 rfl rfl) (.tmp 7 rfl rfl) Qx (by omega) (by omega) (by kernel_rfl) (.here 22 rfl),Zx (e:=⟨g,1,false,Y7 R⟩) (idx:=c) (it:=Z2 y.hdr) 0 rfl rfl rfl (by kernel_rfl) 0 rfl (by kernel_rfl) (by kernel_rfl) rfl (.tmp 22 rfl rfl) hM0.top rfl (by rw[Qbx]; omega) (show 0+((c:Int)).toNat*1=(c)*1 by omega) Q1 (.tmp 17 rfl rfl) (J8 _ _ _),Qs (.tmp 8 rfl rfl) (.tmp 11 rfl rfl) Qx (by omega) (by omega) (by kernel_rfl) (.here 23 rfl),Zx (e:=⟨g,1,false,(Y7 R).set c (Z2 y.hdr)⟩) (idx:=c+i0) (it:=Z2 x.hdr) 0 rfl rfl rfl (by kernel_rfl) 1 rfl (by kernel_rfl) (by kernel_rfl) rfl (.tmp 23 rfl rfl) (Qbp hM0.top rfl) rfl (by rw[List.length_set,Qbx]; omega) (show 0+(((c:Int)+(Xh X c))).toNat*1=(c+i0)*1 by omega) Q1 (.tmp 21 rfl rfl) (J8 _ _ _),trivial⟩
  refine Qh hI [] [] [⟨some 0,none,32,pI (Xh X c)⟩,⟨some 1,none,33,pB (decide ((Xh X c)>(0:Int)))⟩,⟨some 2,none,4,pB true⟩,⟨some 3,none,5,pB (decide ((Xh X c)>(0:Int)))⟩] (.k (.k .z)) (.t 2 (.t 3 (.k .z))) rfl [0,1,3,7] (by kernel_rfl) ?_ (.k (.k .z)) (.dddd (.dkk .z)) fun a w hI=>?_
  ·exact⟨Qa (.tmp 2 rfl rfl) (.here 3 rfl),Qo (v:=.bool (decide ((Xh X c)>(0:Int)))) (.tmp 3 rfl rfl) (.const _) (fun _=>rfl) (.here 4 rfl),Qc (.const _) (.here 5 rfl),Qc (.tmp 4 rfl rfl) (.here 6 rfl),trivial⟩
  refine wp_ret ?_
  have hI:Inv ⟨34,w0,M,B⟩ [⟨34,34,none,none,.obj,0,0,false,Zj (Y0 H g (Y7 (Yq X R c))),[]⟩,⟨3,3,none,none,.ptr,3,1,false,pv (pI (c:Int)),[]⟩] [] [⟨none,none,4,pB true⟩,⟨none,none,5,pB (decide ((Xh X c)>(0:Int)))⟩] Qf _ _:=(hI.conv ⟨⟨0,_,_,rfl,⟨rfl,rfl,rfl⟩,rfl,fun _=>(pHp_eq (by unfold Yq; rw[if_neg (by omega),show(Xh X c).toNat=i0 by omega]; exact heap_swap hu hx hy))⟩,⟨1,_,_,rfl,⟨rfl,rfl,rfl⟩,rfl,fun _=>fun _ _ h=>h⟩,trivial⟩ ⟨⟨rfl,rfl,0,_,rfl,fun _ _ h=>h⟩,⟨rfl,rfl,1,_,rfl,fun _ _ h=>h⟩,trivial⟩)
  exact finL2 hI rfl hH (n0:=0) rfl (hup_b _ _ _) (.imp (.tmp 0 rfl) (Zy (decide_eq_true (by omega)).symm)) (.tmp 1 rfl)
end Wx
