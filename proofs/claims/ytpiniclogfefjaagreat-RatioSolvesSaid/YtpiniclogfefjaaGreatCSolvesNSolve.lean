import Derived.Test.YtpiniclogfefjaaGreatJSolves39
import Derived.Test.YtpiniclogfefjaaGreatJSolves40
namespace Wx
attribute [local irreducible] Q0
set_option maxRecDepth 100000
open Go Go.RowKit Go.Proofs
set_option linter.unusedVariables false

theorem Qft {A:List (List Rat)} {b:List Rat} {j:Nat} (hR:SqOk A) (h4:A.length<5) (hbl:b.length=A.length) (hb:BdX j A) (hbb:∀k,BdR j (b.getD k 0)) (hj:1≤j∧j≤2000) (hd:Xk A.length (ent A)≠0):∀(M:Nat→Nat→Prop) (w:World) (v0 v1:Value),Mid M w→Box M (fun w=>(Qc 1 false A.length (fun i=>Qk (A.getD i []))) w v0) w→Box M (fun w=>(Qk b) w v1) w→Calls Tryz.prog 25 #[v0,v1] w (RetB M (Xr (Qk (Jj A b)) (pI 0)) w):=by
 intro M w0 v0 v1 hM hv0 hv1
 have h0:=hR.1.rows
 have hr:=hR.rect
 have hdA:BdR (400*j+900) (Xk A.length (ent A)):=by rw[← Qd1 h4]; exact Qej h4 hb (by have:=Nat.two_pow_pos A.length; omega)
 refine Q8 (N:=90) Tryz.func25 rfl rfl rfl hM (show EntsA M w0 [v0,v1] [⟨none,none,0,Qc 1 false A.length (fun i=>Qk (A.getD i []))⟩,⟨none,none,1,Qk b⟩]from⟨⟨rfl,_,rfl,hv0⟩,⟨rfl,_,rfl,hv1⟩,trivial⟩) fun a hI=>?_
 refine Qj hI 2 [Uc 0 4 _,Uc 1 5 _] (.kk .z) ⟨mv,mv,trivial⟩ (.kkkk .z) fun a w hI=>?_
 refine wp_seq ?_
 refine Qj hI 3 [Uc 0 15 _,Uc 1 16 _,Uc 2 6 _] (.kkkk .z) ⟨mv,Z0 ((by have h:=Qbk (A:=A) (by omega); rw[Qc6 hR.1 hR.2]at h; exact h)) (Ya rfl),mv,trivial⟩ (.kkkk (.ddk .z)) fun a w hI=>?_
 refine Qj hI 2 [Uc 0 17 _,Uc 1 18 (pB false)] (.kkkk (.k .z)) ⟨mv,Q6 (v:=.bool (false)) (.tmp 5 rfl rfl) (.const _) (fun _=>rfl) (.here 6 rfl),trivial⟩ (.kkkk (.kdk .z)) fun a w hI=>?_
 refine Xv hI 5 rfl ?_
 refine wp_skip ?_
 refine Qb ?_
 refine wp_seq ?_
 refine Qj hI 5 [Uc 0 20 _,Uc 1 21 (pI (b.length:Int)),Uc 2 22 _,Uc 3 23 (pI (A.length:Int)),Uc 4 24 (pB false)] (.kkkk (.kk .z)) ⟨mv,Qm (.tmp 6 rfl rfl) (Xz).under (.here 7 rfl),mv,Qm (.tmp 8 rfl rfl) (Qy).under (.here 9 rfl),Q6 (v:=.bool (((b.length:Int) != (A.length:Int)))) (.tmp 7 rfl rfl) (.tmp 9 rfl rfl) (fun _=>rfl) (.at_ 10 _ _ rfl (Yt ((by rw[hbl]; exact bne_self_eq_false _)))),trivial⟩ (.kkkk (.dddd (.ddk .z))) fun a w hI=>?_
 refine Xv hI 4 rfl ?_
 refine wp_skip ?_
 refine Qb ?_
 refine Q3 hI 4 [⟨7,7,some 2,none,.ptr,42,3,true,pv Q4,[(3,pv (Qr (Xk A.length (ent A))))]⟩] [] [Uc 0 25 _,Uc 1 26 _] .z (.kkkk (.k .z)) ⟨mv,Z0 (Qg8 (A:=A) h0.1 h4 hr hb hj.2),Jv 0 rfl rfl (by kernel_rfl) (by kernel_rfl) rfl rfl rfl zv_R rfl rfl (by simp[Yw]) rfl (fun _=>trivial),Za 0 rfl rfl rfl rfl 0 rfl (by kernel_rfl) (by kernel_rfl) Yc (.tmp 6 rfl rfl) (Xt _),trivial⟩ (.s .o .z) (.kkkk (.ddd .z)) fun a w hI=>?_
 refine wp_seq ?_
 refine Q3 hI 2 [] [] [Uc 0 27 (Qr (Xk A.length (ent A))),Uc 1 28 _] (.k .z) (.kkkk .z) ⟨Xy 0 rfl rfl rfl rfl (by kernel_rfl) Yc rfl (.here 4 rfl),ce1 (Y2 _) (c_known1 (b:=false) (cn_zero _) (decide_eq_false hd)),trivial⟩ (.k .z) (.kkkk (.dk .z)) fun a w hI=>?_
 refine Xv hI 4 rfl ?_
 refine wp_skip ?_
 refine Qb ?_
 refine Q3 hI 4 [⟨31,31,some 2,some 3,(.row A.length),42,(A.length*3),true,pv (Yb 3 true A.length (fun _=>Q4)),[]⟩,⟨8,8,some 3,none,(.row A.length),42,(A.length*3),true,pv (Yb 3 true A.length (fun _=>Q4)),[]⟩] [] [Uc 0 29 _,Uc 1 30 (pI (A.length:Int))] (.k .z) (.kkkk (.k .z)) ⟨mv,Qm (.tmp 5 rfl rfl) (Qy).under (.here 6 rfl),Jp (n:=A.length) (p0:=Q4) (zv:=.agg #[.bool false,.slice none 0 0,.slice none 0 0]) (z:=[.bool false,.slice none 0 0,.slice none 0 0]) 1 rfl rfl (by kernel_rfl) (by kernel_rfl) (by kernel_rfl) rfl rfl rfl rfl rfl (.tmp 6 rfl rfl) (.tmp 6 rfl rfl) (Xz).under (by kernel_rfl) rfl rfl (by omega) (by simp[Yw]) (fun _=>trivial) (by omega),K9 1 rfl rfl rfl rfl rfl (by kernel_rfl) rfl 2 rfl rfl rfl rfl rfl rfl rfl rfl (by kernel_rfl) (by kernel_rfl),trivial⟩ (.k (.d (.k .z))) (.kkkk (.ddd .z)) fun a w hI=>?_
 refine wp_seq ?_
 refine Q3 hI 1 [] [] [Uc 0 9 _] (.k (.k .z)) (.kkkk .z) ⟨mv,trivial⟩ (.k (.k .z)) (.kkkk (.k .z)) fun a w hI=>?_
 refine wp_block ?_
 refine Q9 (fun(q:GI) a w=>(q.k≤A.length)∧Inv ⟨90,w0,M,fun _=>False⟩ [⟨7,7,none,none,.ptr,42,3,true,pv (Qr (Xk A.length (ent A))),[]⟩,⟨8,8,none,none,(.row A.length),42,(A.length*3),true,pv (Yb 3 true A.length (Yl q.k (fun i=>Qr ((Jj A b).getD i 0)) Q4)),[]⟩] [] [⟨none,none,0,Qc 1 false A.length (fun i=>Qk (A.getD i []))⟩,⟨none,none,1,Qk b⟩,⟨none,none,4,Qi ((Value.slice none 0 0))⟩,⟨none,none,5,pI 0⟩,⟨none,none,9,pI (q.k:Int)⟩] Qf a w) (fun(q:GI)=>A.length-q.k) (⟨0,[],[]⟩) ⟨Nat.zero_le _,(hI.conv ⟨⟨0,_,_,rfl,⟨rfl,rfl,rfl⟩,rfl,fun _=>fun _ _ h=>h⟩,⟨1,_,_,rfl,⟨rfl,rfl,rfl⟩,rfl,fun _=>(Zh Vn)⟩,trivial⟩ ⟨⟨rfl,rfl,0,_,rfl,fun _ _ h=>h⟩,⟨rfl,rfl,1,_,rfl,fun _ _ h=>h⟩,⟨rfl,rfl,2,_,rfl,fun _ _ h=>h⟩,⟨rfl,rfl,3,_,rfl,fun _ _ h=>h⟩,⟨rfl,rfl,4,_,rfl,(Qw rfl)⟩,trivial⟩)⟩ ?_
 intro q a w hIk
 obtain⟨hk,hI⟩:=hIk
 refine wp_seq ?_
 refine Q3 hI 4 [] [] [Uc 0 32 _,Uc 1 33 _,Uc 2 34 (pI (A.length:Int)),Uc 3 35 _] (.k (.k .z)) (.kkkk (.k .z)) ⟨mv,mv,Qm (.tmp 6 rfl rfl) (Qy).under (.here 7 rfl),bl,trivial⟩ (.k (.k .z)) (.kkkk (.kddd (.k .z))) fun a w hI=>?_
 refine Xa hI 5 rfl (fun ht=>?_) (fun ht=>?_)
 ·have t1:=of_decide_eq_true ht
  refine wp_skip ?_
  refine Qb ?_
  refine wp_seq ?_
  refine wp_block ?_
  refine Vz hI [] [] [⟨some 0,none,38,Qc 1 false A.length (fun i=>Qk (A.getD i []))⟩,⟨some 1,none,39,pI (A.length:Int)⟩,⟨some 2,none,40,Qc 1 false A.length (fun i=>Qk (A.getD i []))⟩,⟨some 3,none,41,pI (A.length:Int)⟩] (.k (.k .z)) (.kkkk (.kk .z)) rfl [0,1,3,7,15,31] 4 (by kernel_rfl) ?_ (.k (.k .z)) (.kkkk (.kddk (.dk .z))) (fun a w hI=>hI) (⟨_,fun a w hI=>Qbb 42 (fun _ _=>by kernel_rfl) hI (.tmp 5 rfl rfl) (.tmp 6 rfl rfl) (fun M w v1 v2 hM h1 h2=>Qe5 (n:=A.length) (m:=A.length) (by omega) (by omega) M w v1 v2 hM h1 h2) (by kernel_rfl) (by kernel_rfl) (by kernel_rfl),
    _,U2 fun l hC a w hI=>Jw hI [] [⟨some 0,none,10,Qi (.slice (some ⟨l.g,0,none⟩) A.length A.length)⟩] (.k (.k (.k .z))) (.k8 .z) (by kernel_rfl) (Ys (.tmp 0 rfl rfl) (.here 8 rfl)) (.k (.k (.k .z))) (.dkkk (.kkdd (.k .z))),
    rfl⟩) ?_
  ·exact⟨Qx (.tmp 0 rfl rfl) (.here 6 rfl),Qm (.tmp 6 rfl rfl) (Qy).under (.here 7 rfl),Qx (.tmp 0 rfl rfl) (.here 8 rfl),Qm (.tmp 8 rfl rfl) (Qy).under (.here 9 rfl),trivial⟩
  ·rintro a w ⟨z,hC,hI⟩
   have hC:GridOk 3 true z.g A.length z.R (X9 A.length (fun _ _=>Zr 0)) z.H:=hC
   refine wp_seq ?_
   refine Q3 hI 1 [] [] [Uc 0 11 _] (.k (.k (.k .z))) (.kkkk (.kk .z)) ⟨mv,trivial⟩ (.k (.k (.k .z))) (.kkkk (.kkk .z)) fun a w hI=>?_
   refine wp_block ?_
   refine Q9 (fun(q2:GI) a w=>(q2.k≤A.length∧GridOk 3 true z.g A.length z.R (X9 A.length (mF A b q.k q2.k 0)) q2.H)∧Inv ⟨90,w0,M,fun _=>False⟩ [⟨42,42,none,none,.obj,0,0,false,Zo q2.H,[]⟩,⟨7,7,none,none,.ptr,42,3,true,pv (Qr (Xk A.length (ent A))),[]⟩,⟨8,8,none,none,(.row A.length),42,(A.length*3),true,pv (Yb 3 true A.length (Yl q.k (fun i=>Qr ((Jj A b).getD i 0)) Q4)),[]⟩] [] [⟨none,none,0,Qc 1 false A.length (fun i=>Qk (A.getD i []))⟩,⟨none,none,1,Qk b⟩,⟨none,none,4,Qi ((Value.slice none 0 0))⟩,⟨none,none,5,pI 0⟩,⟨none,none,9,pI (q.k:Int)⟩,⟨none,none,10,Qi (.slice (some ⟨z.g,0,none⟩) A.length A.length)⟩,⟨none,none,11,pI (q2.k:Int)⟩] Qf a w) (fun(q2:GI)=>A.length-q2.k) (⟨0,z.R,z.H⟩) ⟨⟨Nat.zero_le _,hC.congr fun i _=>mF_zero i⟩,(hI.conv ⟨⟨0,_,_,rfl,⟨rfl,rfl,rfl⟩,rfl,fun _=>(fun _ _ h=>h)⟩,⟨1,_,_,rfl,⟨rfl,rfl,rfl⟩,rfl,fun _=>fun _ _ h=>h⟩,⟨2,_,_,rfl,⟨rfl,rfl,rfl⟩,rfl,fun _=>fun _ _ h=>h⟩,trivial⟩ ⟨⟨rfl,rfl,0,_,rfl,fun _ _ h=>h⟩,⟨rfl,rfl,1,_,rfl,fun _ _ h=>h⟩,⟨rfl,rfl,2,_,rfl,fun _ _ h=>h⟩,⟨rfl,rfl,3,_,rfl,fun _ _ h=>h⟩,⟨rfl,rfl,4,_,rfl,fun _ _ h=>h⟩,⟨rfl,rfl,5,_,rfl,fun _ _ h=>h⟩,⟨rfl,rfl,6,_,rfl,(Qw rfl)⟩,trivial⟩)⟩ ?_
   intro q2 a w hIk
   obtain⟨⟨hk2,hB2⟩,hI⟩:=hIk
   refine wp_seq ?_
   refine Q3 hI 4 [] [] [Uc 0 43 _,Uc 1 44 _,Uc 2 45 (pI (A.length:Int)),Uc 3 46 _] (.k (.k (.k .z))) (.kkkk (.kkk .z)) ⟨mv,mv,Qm (.tmp 8 rfl rfl) (Qy).under (.here 9 rfl),bl,trivial⟩ (.k (.k (.k .z))) (.kkkk (.kkkd (.ddk .z))) fun a w hI=>?_
   refine Xa hI 7 rfl (fun ht=>?_) (fun ht=>?_)
   ·have t2:=of_decide_eq_true ht
    refine wp_skip ?_
    refine Qb ?_
    refine wp_seq ?_
    refine wp_block ?_
    refine wp_seq ?_
    refine Q3 hI 1 [] [] [Uc 0 12 _] (.k (.k (.k .z))) (.k8 .z) ⟨mv,trivial⟩ (.k (.k (.k .z))) (.kkkk (.kkkd (.k .z))) fun a w hI=>?_
    refine wp_block ?_
    refine Q9 (fun(q3:GI) a w=>(q3.k≤A.length∧GridOk 3 true z.g A.length z.R (X9 A.length (mF A b q.k q2.k q3.k)) q3.H)∧Inv ⟨90,w0,M,fun _=>False⟩ [⟨42,42,none,none,.obj,0,0,false,Zo q3.H,[]⟩,⟨7,7,none,none,.ptr,42,3,true,pv (Qr (Xk A.length (ent A))),[]⟩,⟨8,8,none,none,(.row A.length),42,(A.length*3),true,pv (Yb 3 true A.length (Yl q.k (fun i=>Qr ((Jj A b).getD i 0)) Q4)),[]⟩] [] [⟨none,none,0,Qc 1 false A.length (fun i=>Qk (A.getD i []))⟩,⟨none,none,1,Qk b⟩,⟨none,none,4,Qi ((Value.slice none 0 0))⟩,⟨none,none,5,pI 0⟩,⟨none,none,9,pI (q.k:Int)⟩,⟨none,none,10,Qi (.slice (some ⟨z.g,0,none⟩) A.length A.length)⟩,⟨none,none,11,pI (q2.k:Int)⟩,⟨none,none,12,pI (q3.k:Int)⟩] Qf a w) (fun(q3:GI)=>A.length-q3.k) (⟨0,z.R,q2.H⟩) ⟨⟨Nat.zero_le _,hB2⟩,(hI.conv ⟨⟨0,_,_,rfl,⟨rfl,rfl,rfl⟩,rfl,fun _=>(fun _ _ h=>h)⟩,⟨1,_,_,rfl,⟨rfl,rfl,rfl⟩,rfl,fun _=>fun _ _ h=>h⟩,⟨2,_,_,rfl,⟨rfl,rfl,rfl⟩,rfl,fun _=>fun _ _ h=>h⟩,trivial⟩ ⟨⟨rfl,rfl,0,_,rfl,fun _ _ h=>h⟩,⟨rfl,rfl,1,_,rfl,fun _ _ h=>h⟩,⟨rfl,rfl,2,_,rfl,fun _ _ h=>h⟩,⟨rfl,rfl,3,_,rfl,fun _ _ h=>h⟩,⟨rfl,rfl,4,_,rfl,fun _ _ h=>h⟩,⟨rfl,rfl,5,_,rfl,fun _ _ h=>h⟩,⟨rfl,rfl,6,_,rfl,fun _ _ h=>h⟩,⟨rfl,rfl,7,_,rfl,(Qw rfl)⟩,trivial⟩)⟩ ?_
    intro q3 a w hIk
    obtain⟨⟨hk3,hB3⟩,hI⟩:=hIk
    refine wp_seq ?_
    refine Q3 hI 4 [] [] [Uc 0 49 _,Uc 1 50 _,Uc 2 51 (pI (A.length:Int)),Uc 3 52 _] (.k (.k (.k .z))) (.k8 .z) ⟨mv,mv,Qm (.tmp 9 rfl rfl) (Qy).under (.here 10 rfl),bl,trivial⟩ (.k (.k (.k .z))) (.k8 (.dddk .z)) fun a w hI=>?_
    refine Xa hI 8 rfl (fun ht=>?_) (fun ht=>?_)
    ·have t3:=of_decide_eq_true ht
     refine wp_skip ?_
     refine Qb ?_
     refine wp_seq ?_
     refine wp_block ?_
     obtain⟨r,hr1⟩:=hB3.at_ (i:=q2.k) (by omega) (by rw[Zd]; omega)
     have hrn:=(hB3.rows q2.k r (by omega) hr1).1
     rw[Zd]at hrn
     have hra:=hr q2.k (by omega)
     refine srD hI [0,0,3,7,0,0,0,96,224,0,992,2016,4095,8191] [] [] [Uc 0 55 _,Uc 1 56 _,Uc 2 57 (Qi (.pointer (some ⟨z.g,0+((q2.k:Int)).toNat*1,none⟩))),Uc 3 58 (Qi (.slice (some ⟨r.b,0,none⟩) r.n r.cap)),Uc 4 59 _,Uc 5 60 _,Uc 6 61 _,Uc 7 62 _,Uc 8 63 (Qk (A.getD q2.k [])),Uc 9 64 _,Uc 10 65 _,Uc 11 66 (Qr ((A.getD q2.k []).getD q3.k 0)),Uc 12 67 (Qi (.pointer (some ⟨r.b,0+((q3.k:Int)).toNat*3,none⟩)))] (.u none [(13,Zo (Ye q3.H r.b q3.k (Zr ((A.getD q2.k []).getD q3.k 0))))] (.k (.k .z))) (.k8 (.k .z)) ⟨mv,mv,Qs (.tmp 9 rfl rfl) (.tmp 10 rfl rfl) Qy (by omega) (by omega) (by kernel_rfl) (.here 11 rfl),Yv (e:=⟨z.g,1,false,Vf z.R⟩) (idx:=q2.k) 0 rfl rfl rfl (by kernel_rfl) rfl (.tmp 11 rfl rfl) hB3.top rfl (hB3.hd (by omega) hr1) (show 0+((q2.k:Int)).toNat*1=q2.k*1 by omega) Jt (.here 12 rfl),mv,mv,mv,Ky Qy,Q5 (.tmp 16 rfl rfl) Jt ((Zb _)) (.here 17 rfl),mv,Ky Xz,Q5 (.tmp 19 rfl rfl) Yc (Xt _) (.here 20 rfl),Qs (.tmp 12 rfl rfl) (.tmp 13 rfl rfl) Xz (by omega) (by omega) (by kernel_rfl) (.here 21 rfl),Zn (e:=⟨r.b,3,true,X9 A.length (mF A b q.k q2.k q3.k) q2.k⟩) (idx:=q3.k) (it:=Zr ((A.getD q2.k []).getD q3.k 0)) 0 rfl rfl rfl (by kernel_rfl) 0 rfl (by kernel_rfl) (by kernel_rfl) rfl (.tmp 21 rfl rfl) (hB3.rows q2.k r (by omega) hr1).2.2.2.1 rfl (by rw[Zd]; omega) (show 0+((q3.k:Int)).toNat*3=q3.k*3 by omega) Yc (.tmp 20 rfl rfl) (Xt _),trivial⟩ (.s .o (.k (.k .z))) (.k8 (.d8 (.dddd (.dd .z)))) fun a w hI=>?_
     refine Xo ?_
     refine Qb ?_
     refine Z3 hI 3 [] [] [Uc 0 53 _,Uc 1 54 _,Uc 2 12 _] (.k (.k (.k .z))) (.kkkk (.kkk (.t 2 .z))) ⟨mv,bl,mv,trivial⟩ (.k (.k (.k .z))) (.kkkk (.kkkd (.ddk .z))) fun a w hI=>?_
     refine Qb ?_
     exact⟨⟨q3.k+1,z.R,Ye q3.H r.b q3.k (Zr ((A.getD q2.k []).getD q3.k 0))⟩,⟨⟨by show q3.k+1≤A.length; omega,(hB3.set (k:=q3.k) (it:=Zr ((A.getD q2.k []).getD q3.k 0)) (by omega) hr1).congr fun i _=>(Qdl i).trans (by rw[mF_step])⟩,(hI.conv ⟨⟨0,_,_,rfl,⟨rfl,rfl,rfl⟩,rfl,fun _=>fun _ _ h=>h⟩,⟨1,_,_,rfl,⟨rfl,rfl,rfl⟩,rfl,fun _=>fun _ _ h=>h⟩,⟨2,_,_,rfl,⟨rfl,rfl,rfl⟩,rfl,fun _=>fun _ _ h=>h⟩,trivial⟩ ⟨⟨rfl,rfl,0,_,rfl,fun _ _ h=>h⟩,⟨rfl,rfl,1,_,rfl,fun _ _ h=>h⟩,⟨rfl,rfl,2,_,rfl,fun _ _ h=>h⟩,⟨rfl,rfl,3,_,rfl,fun _ _ h=>h⟩,⟨rfl,rfl,4,_,rfl,fun _ _ h=>h⟩,⟨rfl,rfl,5,_,rfl,fun _ _ h=>h⟩,⟨rfl,rfl,6,_,rfl,fun _ _ h=>h⟩,⟨rfl,rfl,7,_,rfl,(Qw (by show((q3.k:Int)+1)=((q3.k+1:Nat):Int); omega))⟩,trivial⟩)⟩,(show A.length-(q3.k+1)<A.length-q3.k by omega)⟩
    ·have t4:=of_decide_eq_false ht
     refine wp_exit ?_
     refine Ql ?_
     refine Ql ?_
     refine Q7 ?_
     refine Qb ?_
     obtain⟨r,hr1⟩:=hB3.at_ (i:=q2.k) (by omega) (by rw[Zd]; omega)
     have hrn:=(hB3.rows q2.k r (by omega) hr1).1
     rw[Zd]at hrn
     have hra:=hr q2.k (by omega)
     refine srD hI [0,0,3,7,0,0,0,96,224,511,1023] [] [] [Uc 0 68 _,Uc 1 69 _,Uc 2 70 (Qi (.pointer (some ⟨z.g,0+((q2.k:Int)).toNat*1,none⟩))),Uc 3 71 (Qi (.slice (some ⟨r.b,0,none⟩) r.n r.cap)),Uc 4 72 _,Uc 5 73 _,Uc 6 74 _,Uc 7 75 _,Uc 8 76 (Qr (b.getD q2.k 0)),Uc 9 77 (Qi (.pointer (some ⟨r.b,0+((q.k:Int)).toNat*3,none⟩)))] (.u none [(10,Zo (Ye q3.H r.b q.k (Zr (b.getD q2.k 0))))] (.k (.k .z))) (.k8 (.k .z)) ⟨mv,mv,Qs (.tmp 9 rfl rfl) (.tmp 10 rfl rfl) Qy (by omega) (by omega) (by kernel_rfl) (.here 11 rfl),Yv (e:=⟨z.g,1,false,Vf z.R⟩) (idx:=q2.k) 0 rfl rfl rfl (by kernel_rfl) rfl (.tmp 11 rfl rfl) hB3.top rfl (hB3.hd (by omega) hr1) (show 0+((q2.k:Int)).toNat*1=q2.k*1 by omega) Jt (.here 12 rfl),mv,mv,mv,Ky Xz,Q5 (.tmp 16 rfl rfl) Yc (Xt _) (.here 17 rfl),Qs (.tmp 12 rfl rfl) (.tmp 13 rfl rfl) Xz (by omega) (by omega) (by kernel_rfl) (.here 18 rfl),Zn (e:=⟨r.b,3,true,X9 A.length (mF A b q.k q2.k q3.k) q2.k⟩) (idx:=q.k) (it:=Zr (b.getD q2.k 0)) 0 rfl rfl rfl (by kernel_rfl) 0 rfl (by kernel_rfl) (by kernel_rfl) rfl (.tmp 18 rfl rfl) (hB3.rows q2.k r (by omega) hr1).2.2.2.1 rfl (by rw[Zd]; omega) (show 0+((q.k:Int)).toNat*3=q.k*3 by omega) Yc (.tmp 17 rfl rfl) (Xt _),trivial⟩ (.s .o (.k (.k .z))) (.kkkk (.kkkd (.d8 (.ddd .z)))) fun a w hI=>?_
     refine Xo ?_
     refine Qb ?_
     refine Z3 hI 3 [] [] [Uc 0 47 _,Uc 1 48 _,Uc 2 11 _] (.k (.k (.k .z))) (.kkkk (.kk (.t 2 .z))) ⟨mv,bl,mv,trivial⟩ (.k (.k (.k .z))) (.kkkk (.kkdd (.dk .z))) fun a w hI=>?_
     refine Qb ?_
     exact⟨⟨q2.k+1,z.R,Ye q3.H r.b q.k (Zr (b.getD q2.k 0))⟩,⟨⟨by show q2.k+1≤A.length; omega,(hB3.set (k:=q.k) (it:=Zr (b.getD q2.k 0)) (by omega) hr1).congr fun i _=>(Qdl i).trans (by rw[show q3.k=A.length by omega]; exact mF_row i)⟩,(hI.conv ⟨⟨0,_,_,rfl,⟨rfl,rfl,rfl⟩,rfl,fun _=>fun _ _ h=>h⟩,⟨1,_,_,rfl,⟨rfl,rfl,rfl⟩,rfl,fun _=>fun _ _ h=>h⟩,⟨2,_,_,rfl,⟨rfl,rfl,rfl⟩,rfl,fun _=>fun _ _ h=>h⟩,trivial⟩ ⟨⟨rfl,rfl,0,_,rfl,fun _ _ h=>h⟩,⟨rfl,rfl,1,_,rfl,fun _ _ h=>h⟩,⟨rfl,rfl,2,_,rfl,fun _ _ h=>h⟩,⟨rfl,rfl,3,_,rfl,fun _ _ h=>h⟩,⟨rfl,rfl,4,_,rfl,fun _ _ h=>h⟩,⟨rfl,rfl,5,_,rfl,fun _ _ h=>h⟩,⟨rfl,rfl,6,_,rfl,(Qw (by show((q2.k:Int)+1)=((q2.k+1:Nat):Int); omega))⟩,trivial⟩)⟩,(show A.length-(q2.k+1)<A.length-q2.k by omega)⟩
   ·have t5:=of_decide_eq_false ht
    refine wp_exit ?_
    refine Ql ?_
    refine Ql ?_
    refine Q7 ?_
    refine Qb ?_
    have hG:=hB2
    rw[show q2.k=A.length by omega]at hG
    replace hI:=hI.restObj (n0:=0) (slot:=10) (k:=5) (p:=Qc 1 false A.length (fun i=>Qk ((Uo A b q.k).getD i []))) rfl (by kernel_rfl) rfl (fun B' w hH=>Qfm (fun i hi=>by rw[Qgt hi]; simp) (fun i k hi hk=>mF_fin hi hk) w _ (hG.read (Nat.le_refl _) (by omega) B' w hH))
    have hdm:BdR (400*j+900) (Xk A.length (ent (Uo A b q.k))):=by have h:=Qej (A:=Uo A b q.k) h4 (repM_bd hb hbb hj.1) (s:=2^A.length-1) (by have:=Nat.two_pow_pos A.length; omega); rw[Qd1 h4]at h; exact h
    refine sqD hI [0,1,0,7,15,31,31,0,191,511] [⟨13,13,some 7,none,.ptr,42,3,true,pv Q4,[(8,pv (Qr ((Xk A.length (ent (Uo A b q.k)))/(Xk A.length (ent A)))))]⟩] [] [Uc 0 79 _,Uc 1 80 _,Uc 2 81 (Qr (Xk A.length (ent A))),Uc 3 82 _,Uc 4 78 _,Uc 5 83 _,Uc 6 84 _,Uc 9 14 _] (.k (.k .z)) (.k8 .z) ⟨mv,Z0 ((by have h:=Qg8 (A:=Uo A b q.k) (by rw[Qc4]; omega) (by rw[Qc4]; omega) (by rw[Qc4]; exact repM_rect) (repM_bd hb hbb hj.1) hj.2; rw[Qc4]at h; exact h)) (Ya rfl),Xy 0 rfl rfl rfl rfl (by kernel_rfl) Yc rfl (.here 10 rfl),ce2 (Qhl (X3 _) (Y2 _)) (cn_div_ok hdm hdA (sol_bits hj.2) hd),mv,ext,ext,Jv 2 rfl rfl (by kernel_rfl) (by kernel_rfl) rfl rfl rfl zv_R rfl rfl (by simp[Yw]) rfl (fun _=>trivial),Za 2 rfl rfl rfl rfl 0 rfl (by kernel_rfl) (by kernel_rfl) Yc (.tmp 13 rfl rfl) (Xt _),mv,trivial⟩ (.k (.k (.s .o .z))) (.dkkk (.kkdd (.d8 .z))) fun a w hI=>?_
    obtain⟨g2,hI⟩:=hI.openRow 1 rfl rfl rfl
    refine Z3 hI 5 [] [] [Uc 0 85 _,Uc 1 86 _,Uc 2 87 (Qr ((Xk A.length (ent (Uo A b q.k)))/(Xk A.length (ent A)))),Uc 3 88 (Qi (.pointer (some ⟨g2,0+((q.k:Int)).toNat*3,none⟩)))] (.k (.u none [(4,pv (Yb 3 true A.length (Zx (Yl q.k (fun i=>Qr ((Jj A b).getD i 0)) Q4) q.k (Qr ((Xk A.length (ent (Uo A b q.k)))/(Xk A.length (ent A)))))))] (.k .z))) (.kkkk (.kk .z)) ⟨mv,mv,Xy 2 rfl rfl rfl rfl (by kernel_rfl) Yc rfl (.here 8 rfl),Qs (.tmp 6 rfl rfl) (.tmp 7 rfl rfl) Xz (by omega) (by omega) (by kernel_rfl) (.here 9 rfl),Ji (sz:=3) (n:=A.length) (q:=q.k) (ag:=true) (f:=Yl q.k (fun i=>Qr ((Jj A b).getD i 0)) Q4) (p:=Qr ((Xk A.length (ent (Uo A b q.k)))/(Xk A.length (ent A)))) 1 rfl rfl rfl (by kernel_rfl) rfl rfl 0 rfl (by kernel_rfl) (by kernel_rfl) (.tmp 0 rfl rfl) (.tmp 9 rfl rfl) (show 0+((q.k:Int)).toNat*3=q.k*3 by omega) (by omega) Yc rfl (.tmp 8 rfl rfl) (Xt _),trivial⟩ (.k (.s .o (.k .z))) (.kkkk (.kkdd (.dd .z))) fun a w hI=>?_
    refine Xo ?_
    refine Qb ?_
    refine Z3 hI 3 [] [] [Uc 0 36 _,Uc 1 37 _,Uc 2 9 _] (.k (.k (.k .z))) (.kkkk (.k (.t 2 .z))) ⟨mv,bl,mv,trivial⟩ (.k (.k (.k .z))) (.kkkk (.kddd (.k .z))) fun a w hI=>?_
    refine Qb ?_
    exact⟨⟨q.k+1,[],[]⟩,⟨(show q.k+1≤A.length by omega),(hI.conv ⟨⟨0,_,_,rfl,⟨rfl,rfl,rfl⟩,rfl,fun _=>fun _ _ h=>h⟩,⟨1,_,_,rfl,⟨rfl,rfl,rfl⟩,rfl,fun _=>(Zh (Wd fun w v u=>by rw[← cram_sol hr hbl hd (by omega)]; exact u))⟩,trivial⟩ ⟨⟨rfl,rfl,1,_,rfl,fun _ _ h=>h⟩,⟨rfl,rfl,2,_,rfl,fun _ _ h=>h⟩,⟨rfl,rfl,3,_,rfl,fun _ _ h=>h⟩,⟨rfl,rfl,4,_,rfl,fun _ _ h=>h⟩,⟨rfl,rfl,5,_,rfl,(Qw (by show((q.k:Int)+1)=((q.k+1:Nat):Int); omega))⟩,trivial⟩)⟩,(show A.length-(q.k+1)<A.length-q.k by omega)⟩
 ·have t6:=of_decide_eq_false ht
  refine wp_exit ?_
  refine Ql ?_
  refine Ql ?_
  refine Q7 ?_
  refine Qb ?_
  obtain⟨g3,hI⟩:=hI.openRow 1 rfl rfl rfl
  replace hI:=hI.restRow (n0:=1) (k0:=0) (f':=(fun i=>Qr ((Jj A b).getD i 0))) rfl (by kernel_rfl) (by omega) (fun i hi w v u=>by rw[show q.k=A.length by omega]at u; exact Qbm i hi w v u)
  refine Q3 hI 3 [] [] [Uc 0 89 _,Uc 1 4 _,Uc 2 5 _] (.k .z) (.kkk (.t 1 (.t 2 (.kk .z)))) ⟨mv,mv,mv,trivial⟩ (.k .z) (.d8 (.kk .z)) fun a w hI=>?_
  refine wp_ret ?_
  exact K3 hI rfl (.imp (.tmp 0 rfl) (fun w v h=>by rw[Qap Qgw]; exact h)) (.tmp 1 rfl)
theorem Qdp {A:List (List Rat)} {b:List Rat} {j:Nat} (hR:SqOk A) (h4:A.length<5) (hbl:b.length=A.length) (hb:BdX j A) (hbb:∀k,BdR j (b.getD k 0)) (hj:1≤j∧j≤2000) (hd:Xk A.length (ent A)=0):∀(M:Nat→Nat→Prop) (w:World) (v0 v1:Value),Mid M w→Box M (fun w=>(Qc 1 false A.length (fun i=>Qk (A.getD i []))) w v0) w→Box M (fun w=>(Qk b) w v1) w→Calls Tryz.prog 25 #[v0,v1] w (RetB M (Xr (Qi (.slice none 0 0)) (pI 6)) w):=by
 intro M w0 v0 v1 hM hv0 hv1
 have h0:=hR.1.rows
 have hr:=hR.rect
 have hdA:BdR (400*j+900) (Xk A.length (ent A)):=by rw[← Qd1 h4]; exact Qej h4 hb (by have:=Nat.two_pow_pos A.length; omega)
 refine Q8 (N:=90) Tryz.func25 rfl rfl rfl hM (show EntsA M w0 [v0,v1] [⟨none,none,0,Qc 1 false A.length (fun i=>Qk (A.getD i []))⟩,⟨none,none,1,Qk b⟩]from⟨⟨rfl,_,rfl,hv0⟩,⟨rfl,_,rfl,hv1⟩,trivial⟩) fun a hI=>?_
 refine Qj hI 2 [Uc 0 4 _,Uc 1 5 _] (.kk .z) ⟨mv,mv,trivial⟩ (.kkkk .z) fun a w hI=>?_
 refine wp_seq ?_
 refine Qj hI 3 [Uc 0 15 _,Uc 1 16 _,Uc 2 6 _] (.kkkk .z) ⟨mv,Z0 ((by have h:=Qbk (A:=A) (by omega); rw[Qc6 hR.1 hR.2]at h; exact h)) (Ya rfl),mv,trivial⟩ (.kkkk (.ddk .z)) fun a w hI=>?_
 refine Qj hI 2 [Uc 0 17 _,Uc 1 18 (pB false)] (.kkkk (.k .z)) ⟨mv,Q6 (v:=.bool (false)) (.tmp 5 rfl rfl) (.const _) (fun _=>rfl) (.here 6 rfl),trivial⟩ (.kkkk (.kdk .z)) fun a w hI=>?_
 refine Xv hI 5 rfl ?_
 refine wp_skip ?_
 refine Qb ?_
 refine wp_seq ?_
 refine Qj hI 5 [Uc 0 20 _,Uc 1 21 (pI (b.length:Int)),Uc 2 22 _,Uc 3 23 (pI (A.length:Int)),Uc 4 24 (pB false)] (.kkkk (.kk .z)) ⟨mv,Qm (.tmp 6 rfl rfl) (Xz).under (.here 7 rfl),mv,Qm (.tmp 8 rfl rfl) (Qy).under (.here 9 rfl),Q6 (v:=.bool (((b.length:Int) != (A.length:Int)))) (.tmp 7 rfl rfl) (.tmp 9 rfl rfl) (fun _=>rfl) (.at_ 10 _ _ rfl (Yt ((by rw[hbl]; exact bne_self_eq_false _)))),trivial⟩ (.kkkk (.dddd (.ddk .z))) fun a w hI=>?_
 refine Xv hI 4 rfl ?_
 refine wp_skip ?_
 refine Qb ?_
 refine Q3 hI 4 [⟨7,7,some 2,none,.ptr,42,3,true,pv Q4,[(3,pv (Qr (Xk A.length (ent A))))]⟩] [] [Uc 0 25 _,Uc 1 26 _] .z (.kkkk (.k .z)) ⟨mv,Z0 (Qg8 (A:=A) h0.1 h4 hr hb hj.2),Jv 0 rfl rfl (by kernel_rfl) (by kernel_rfl) rfl rfl rfl zv_R rfl rfl (by simp[Yw]) rfl (fun _=>trivial),Za 0 rfl rfl rfl rfl 0 rfl (by kernel_rfl) (by kernel_rfl) Yc (.tmp 6 rfl rfl) (Xt _),trivial⟩ (.s .o .z) (.kkkk (.ddd .z)) fun a w hI=>?_
 refine wp_seq ?_
 refine Q3 hI 2 [] [] [Uc 0 27 (Qr (Xk A.length (ent A))),Uc 1 28 _] (.k .z) (.kkkk .z) ⟨Xy 0 rfl rfl rfl rfl (by kernel_rfl) Yc rfl (.here 4 rfl),ce1 (Y2 _) (c_known1 (b:=true) (cn_zero _) (decide_eq_true hd)),trivial⟩ (.k .z) (.kkkk (.dk .z)) fun a w hI=>?_
 refine Y9 hI 4 rfl ?_
 refine Q3 hI 2 [] [] [Uc 0 4 _,Uc 1 5 _] (.k .z) (.kk (.t 0 (.t 1 (.k .z)))) ⟨mv,mv,trivial⟩ (.k .z) (.kkdd (.dkk .z)) fun a w hI=>?_
 refine wp_ret ?_
 refine Xf ?_
 exact K3 hI rfl (.tmp 2 rfl) (.tmp 3 rfl)
theorem cn_Solve_no1 {A:List (List Rat)} {b:List Rat} (hAl:A.length≤1000000) (hR:¬SqOk A):∀(M:Nat→Nat→Prop) (w:World) (v0 v1:Value),Mid M w→Box M (fun w=>(Qc 1 false A.length (fun i=>Qk (A.getD i []))) w v0) w→Box M (fun w=>(Qk b) w v1) w→Calls Tryz.prog 25 #[v0,v1] w (RetB M (Xr (Qi (.slice none 0 0)) (pI 4)) w):=by
 intro M w0 v0 v1 hM hv0 hv1
 refine Q8 (N:=90) Tryz.func25 rfl rfl rfl hM (show EntsA M w0 [v0,v1] [⟨none,none,0,Qc 1 false A.length (fun i=>Qk (A.getD i []))⟩,⟨none,none,1,Qk b⟩]from⟨⟨rfl,_,rfl,hv0⟩,⟨rfl,_,rfl,hv1⟩,trivial⟩) fun a hI=>?_
 refine Qj hI 2 [Uc 0 4 _,Uc 1 5 _] (.kk .z) ⟨mv,mv,trivial⟩ (.kkkk .z) fun a w hI=>?_
 refine wp_seq ?_
 refine Qj hI 3 [Uc 0 15 _,Uc 1 16 _,Uc 2 6 _] (.kkkk .z) ⟨mv,Z0 ((by have h:=Qbk (A:=A) (by omega); rw[Qgx hR]at h; exact h)) (Ya rfl),mv,trivial⟩ (.kkkk (.ddk .z)) fun a w hI=>?_
 refine Qj hI 2 [Uc 0 17 _,Uc 1 18 (pB true)] (.kkkk (.k .z)) ⟨mv,Q6 (v:=.bool (true)) (.tmp 5 rfl rfl) (.const _) (fun _=>rfl) (.here 6 rfl),trivial⟩ (.kkkk (.kdk .z)) fun a w hI=>?_
 refine Y9 hI 5 rfl ?_
 refine Qj hI 3 [Uc 0 19 _,Uc 1 4 _,Uc 2 5 _] (.kk (.t 1 (.t 2 (.kk .z)))) ⟨mv,mv,mv,trivial⟩ (.kkdd (.dddk (.k .z))) fun a w hI=>?_
 refine wp_ret ?_
 refine Xf ?_
 exact K3 hI rfl (.tmp 2 rfl) (.tmp 3 rfl)
theorem cn_Solve_no2 {A:List (List Rat)} {b:List Rat} (hR:SqOk A) (hbl:b.length≠A.length):∀(M:Nat→Nat→Prop) (w:World) (v0 v1:Value),Mid M w→Box M (fun w=>(Qc 1 false A.length (fun i=>Qk (A.getD i []))) w v0) w→Box M (fun w=>(Qk b) w v1) w→Calls Tryz.prog 25 #[v0,v1] w (RetB M (Xr (Qi (.slice none 0 0)) (pI 4)) w):=by
 intro M w0 v0 v1 hM hv0 hv1
 have h0:=hR.1.rows
 have hr:=hR.rect
 refine Q8 (N:=90) Tryz.func25 rfl rfl rfl hM (show EntsA M w0 [v0,v1] [⟨none,none,0,Qc 1 false A.length (fun i=>Qk (A.getD i []))⟩,⟨none,none,1,Qk b⟩]from⟨⟨rfl,_,rfl,hv0⟩,⟨rfl,_,rfl,hv1⟩,trivial⟩) fun a hI=>?_
 refine Qj hI 2 [Uc 0 4 _,Uc 1 5 _] (.kk .z) ⟨mv,mv,trivial⟩ (.kkkk .z) fun a w hI=>?_
 refine wp_seq ?_
 refine Qj hI 3 [Uc 0 15 _,Uc 1 16 _,Uc 2 6 _] (.kkkk .z) ⟨mv,Z0 ((by have h:=Qbk (A:=A) (by omega); rw[Qc6 hR.1 hR.2]at h; exact h)) (Ya rfl),mv,trivial⟩ (.kkkk (.ddk .z)) fun a w hI=>?_
 refine Qj hI 2 [Uc 0 17 _,Uc 1 18 (pB false)] (.kkkk (.k .z)) ⟨mv,Q6 (v:=.bool (false)) (.tmp 5 rfl rfl) (.const _) (fun _=>rfl) (.here 6 rfl),trivial⟩ (.kkkk (.kdk .z)) fun a w hI=>?_
 refine Xv hI 5 rfl ?_
 refine wp_skip ?_
 refine Qb ?_
 refine wp_seq ?_
 refine Qj hI 5 [Uc 0 20 _,Uc 1 21 (pI (b.length:Int)),Uc 2 22 _,Uc 3 23 (pI (A.length:Int)),Uc 4 24 (pB true)] (.kkkk (.kk .z)) ⟨mv,Qm (.tmp 6 rfl rfl) (Xz).under (.here 7 rfl),mv,Qm (.tmp 8 rfl rfl) (Qy).under (.here 9 rfl),Q6 (v:=.bool (((b.length:Int) != (A.length:Int)))) (.tmp 7 rfl rfl) (.tmp 9 rfl rfl) (fun _=>rfl) (.at_ 10 _ _ rfl (Yt ((bne_iff_ne.2 (by omega))))),trivial⟩ (.kkkk (.dddd (.ddk .z))) fun a w hI=>?_
 refine Y9 hI 4 rfl ?_
 refine Qj hI 2 [Uc 0 4 _,Uc 1 5 _] (.kk (.t 0 (.t 1 (.k .z)))) ⟨mv,mv,trivial⟩ (.kkdd (.dkk .z)) fun a w hI=>?_
 refine wp_ret ?_
 refine Xf ?_
 exact K3 hI rfl (.tmp 2 rfl) (.tmp 3 rfl)
theorem eB_cell {n k:Nat} {i:Nat} (hi:i<n):∀w v,Zx (Yl n (fun _=>Qr 0) Q4) k (Qr ((1:Int):Rat)) i w v→Qr ((eB n k).getD i 0) w v:=fun w v h=>by
 rw[eB_get hi]
 unfold Zx Yl at h
 by_cases e:i=k
 ·rw[if_pos e]at h ⊢
  exact h
 ·rw[if_neg e,if_pos hi]at h
  rw[if_neg e]
  exact h
theorem cn_Inverse_ok {A:List (List Rat)} {j:Nat} (hR:SqOk A) (h4:A.length<5) (hb:BdX j A) (hj:1≤j∧j≤2000) (hd:Xk A.length (ent A)≠0):∀(M:Nat→Nat→Prop) (w:World) (v0:Value),Mid M w→Box M (fun w=>(Qc 1 false A.length (fun i=>Qk (A.getD i []))) w v0) w→Calls Tryz.prog 27 #[v0] w (RetB M (Xr (Qc 1 false A.length (fun i=>Qk ((Wk A (Um A.length)).getD i []))) (pI 0)) w):=by
 intro M w0 v0 hM hv0
 have h0:=hR.1.rows
 have hr:=hR.rect
 refine Yk (N:=71) Tryz.func27 rfl rfl rfl hM (show EntsA M w0 [v0] [⟨none,none,0,Qc 1 false A.length (fun i=>Qk (A.getD i []))⟩]from⟨⟨rfl,_,rfl,hv0⟩,trivial⟩) fun a hI=>?_
 refine Qj hI 2 [Uc 0 2 _,Uc 1 3 _] (.k .z) ⟨mv,mv,trivial⟩ (.kkk .z) fun a w hI=>?_
 refine wp_seq ?_
 refine Qj hI 3 [Uc 0 12 _,Uc 1 13 _,Uc 2 4 _] (.kkk .z) ⟨mv,Z0 ((by have h:=Qbk (A:=A) (by omega); rw[Qc6 hR.1 hR.2]at h; exact h)) (Ya rfl),mv,trivial⟩ (.kkkd (.dk .z)) fun a w hI=>?_
 refine Qj hI 2 [Uc 0 14 _,Uc 1 15 (pB false)] (.kkkk .z) ⟨mv,Q6 (v:=.bool (false)) (.tmp 4 rfl rfl) (.const _) (fun _=>rfl) (.here 5 rfl),trivial⟩ (.kkkk (.dk .z)) fun a w hI=>?_
 refine Xv hI 4 rfl ?_
 refine wp_skip ?_
 refine Qb ?_
 refine Vz hI [] [] [⟨some 0,none,17,Qc 1 false A.length (fun i=>Qk (A.getD i []))⟩,⟨some 1,none,18,pI (A.length:Int)⟩,⟨some 2,none,19,Qc 1 false A.length (fun i=>Qk (A.getD i []))⟩,⟨some 3,none,20,pI (A.length:Int)⟩] .z (.kkkk (.k .z)) rfl [0,1,3,7,15,31] 4 (by kernel_rfl) ?_ .z (.kkkd (.ddkd (.k .z))) (fun a w hI=>hI) (⟨_,fun a w hI=>Qbb 21 (fun _ _=>by kernel_rfl) hI (.tmp 3 rfl rfl) (.tmp 4 rfl rfl) (fun M w v1 v2 hM h1 h2=>Qe5 (n:=A.length) (m:=A.length) (by omega) (by omega) M w v1 v2 hM h1 h2) (by kernel_rfl) (by kernel_rfl) (by kernel_rfl),
   _,U2 fun l hC a w hI=>Jw hI [] [⟨some 0,none,5,Qi (.slice (some ⟨l.g,0,none⟩) A.length A.length)⟩] (.k .z) (.kkkk (.kk .z)) (by kernel_rfl) (Ys (.tmp 0 rfl rfl) (.here 6 rfl)) (.k .z) (.dkkk (.ddk .z)),
   rfl⟩) ?_
 ·exact⟨Qx (.tmp 0 rfl rfl) (.here 5 rfl),Qm (.tmp 5 rfl rfl) (Qy).under (.here 6 rfl),Qx (.tmp 0 rfl rfl) (.here 7 rfl),Qm (.tmp 7 rfl rfl) (Qy).under (.here 8 rfl),trivial⟩
 ·rintro a w ⟨z,hC,hI⟩
  have hC:GridOk 3 true z.g A.length z.R (X9 A.length (fun _ _=>Zr 0)) z.H:=hC
  refine wp_seq ?_
  refine Q3 hI 1 [] [] [Uc 0 6 _] (.k .z) (.kkkk .z) ⟨mv,trivial⟩ (.k .z) (.kkkk (.k .z)) fun a w hI=>?_
  refine wp_block ?_
  refine Q9 (fun(q:GI) a w=>(q.k≤A.length∧GridOk 3 true z.g A.length z.R (X9 A.length (vF A q.k 0)) q.H)∧Inv ⟨71,w0,M,fun _=>False⟩ [⟨21,21,none,none,.obj,0,0,false,Zo q.H,[]⟩] [] [⟨none,none,0,Qc 1 false A.length (fun i=>Qk (A.getD i []))⟩,⟨none,none,5,Qi (.slice (some ⟨z.g,0,none⟩) A.length A.length)⟩,⟨none,none,6,pI (q.k:Int)⟩] Qf a w) (fun(q:GI)=>A.length-q.k) (⟨0,z.R,z.H⟩) ⟨⟨Nat.zero_le _,hC.congr fun i _=>vF_zero i⟩,(hI.conv ⟨⟨0,_,_,rfl,⟨rfl,rfl,rfl⟩,rfl,fun _=>(fun _ _ h=>h)⟩,trivial⟩ ⟨⟨rfl,rfl,0,_,rfl,fun _ _ h=>h⟩,⟨rfl,rfl,3,_,rfl,fun _ _ h=>h⟩,⟨rfl,rfl,4,_,rfl,(Qw rfl)⟩,trivial⟩)⟩ ?_
  intro q a w hIk
  obtain⟨⟨hk,hB1⟩,hI⟩:=hIk
  refine wp_seq ?_
  refine Q3 hI 4 [] [] [Uc 0 22 _,Uc 1 23 _,Uc 2 24 (pI (A.length:Int)),Uc 3 25 _] (.k .z) (.kkk .z) ⟨mv,mv,Qm (.tmp 4 rfl rfl) (Qy).under (.here 5 rfl),bl,trivial⟩ (.k .z) (.kkkd (.ddk .z)) fun a w hI=>?_
  refine Xa hI 3 rfl (fun ht=>?_) (fun ht=>?_)
  ·have t1:=of_decide_eq_true ht
   refine wp_skip ?_
   refine Qb ?_
   refine wp_seq ?_
   refine wp_block ?_
   refine Q3 hI 4 [⟨30,30,some 2,some 3,(.row A.length),42,(A.length*3),true,pv (Yb 3 true A.length (fun _=>Q4)),[]⟩,⟨7,7,some 3,none,(.row A.length),42,(A.length*3),true,pv (Yb 3 true A.length (fun _=>Q4)),[]⟩] [] [Uc 0 28 _,Uc 1 29 (pI (A.length:Int))] (.k .z) (.kkkk .z) ⟨mv,Qm (.tmp 4 rfl rfl) (Qy).under (.here 5 rfl),Jp (n:=A.length) (p0:=Q4) (zv:=.agg #[.bool false,.slice none 0 0,.slice none 0 0]) (z:=[.bool false,.slice none 0 0,.slice none 0 0]) 1 rfl rfl (by kernel_rfl) (by kernel_rfl) (by kernel_rfl) rfl rfl rfl rfl rfl (.tmp 5 rfl rfl) (.tmp 5 rfl rfl) (Xz).under (by kernel_rfl) rfl rfl (by omega) (by simp[Yw]) (fun _=>trivial) (by omega),K9 1 rfl rfl rfl rfl rfl (by kernel_rfl) rfl 2 rfl rfl rfl rfl rfl rfl rfl rfl (by kernel_rfl) (by kernel_rfl),trivial⟩ (.k (.d (.k .z))) (.kkkd (.dd .z)) fun a w hI=>?_
   refine wp_seq ?_
   refine Q3 hI 1 [] [] [Uc 0 8 _] (.k (.k .z)) (.kkk .z) ⟨mv,trivial⟩ (.k (.k .z)) (.kkkk .z) fun a w hI=>?_
   refine wp_block ?_
   refine Q9 (fun(k2:Nat) a w=>(k2≤A.length)∧Inv ⟨71,w0,M,fun _=>False⟩ [⟨21,21,none,none,.obj,0,0,false,Zo q.H,[]⟩,⟨7,7,none,none,(.row A.length),42,(A.length*3),true,pv (Yb 3 true A.length (Yl k2 (fun _=>Qr 0) Q4)),[]⟩] [] [⟨none,none,0,Qc 1 false A.length (fun i=>Qk (A.getD i []))⟩,⟨none,none,5,Qi (.slice (some ⟨z.g,0,none⟩) A.length A.length)⟩,⟨none,none,6,pI (q.k:Int)⟩,⟨none,none,8,pI (k2:Int)⟩] Qf a w) (fun(k2:Nat)=>A.length-k2) (0) ⟨Nat.zero_le _,(hI.conv ⟨⟨0,_,_,rfl,⟨rfl,rfl,rfl⟩,rfl,fun _=>fun _ _ h=>h⟩,⟨1,_,_,rfl,⟨rfl,rfl,rfl⟩,rfl,fun _=>(Zh Vn)⟩,trivial⟩ ⟨⟨rfl,rfl,0,_,rfl,fun _ _ h=>h⟩,⟨rfl,rfl,1,_,rfl,fun _ _ h=>h⟩,⟨rfl,rfl,2,_,rfl,fun _ _ h=>h⟩,⟨rfl,rfl,3,_,rfl,(Qw (by omega))⟩,trivial⟩)⟩ ?_
   intro k2 a w hIk
   obtain⟨hp2,hI⟩:=hIk
   refine wp_seq ?_
   refine Q3 hI 4 [] [] [Uc 0 31 _,Uc 1 32 _,Uc 2 33 (pI (A.length:Int)),Uc 3 34 _] (.k (.k .z)) (.kkkk .z) ⟨mv,mv,Qm (.tmp 5 rfl rfl) (Qy).under (.here 6 rfl),bl,trivial⟩ (.k (.k .z)) (.kkkk (.dddk .z)) fun a w hI=>?_
   refine Xa hI 4 rfl (fun ht=>?_) (fun ht=>?_)
   ·have t2:=of_decide_eq_true ht
    refine wp_skip ?_
    refine Qb ?_
    refine wp_seq ?_
    refine wp_block ?_
    obtain⟨g1,hI⟩:=hI.openRow 1 rfl rfl rfl
    refine Z3 hI 5 [] [] [Uc 0 37 _,Uc 1 38 _,Uc 2 39 _,Uc 3 40 (Qi (.pointer (some ⟨g1,0+((k2:Int)).toNat*3,none⟩)))] (.k (.u none [(4,pv (Yb 3 true A.length (Zx (Yl k2 (fun _=>Qr 0) Q4) k2 (Qr ((0:Int):Rat)))))] .z)) (.kkkk (.kk .z)) ⟨mv,mv,ce1 (X3 _) (Qce 0 (by omega) (by omega)),Qs (.tmp 6 rfl rfl) (.tmp 7 rfl rfl) Xz (by omega) (by omega) (by kernel_rfl) (.here 9 rfl),Ji (sz:=3) (n:=A.length) (q:=k2) (ag:=true) (f:=Yl k2 (fun _=>Qr 0) Q4) (p:=Qr ((0:Int):Rat)) 1 rfl rfl rfl (by kernel_rfl) rfl rfl 0 rfl (by kernel_rfl) (by kernel_rfl) (.tmp 0 rfl rfl) (.tmp 9 rfl rfl) (show 0+((k2:Int)).toNat*3=k2*3 by omega) (by omega) Yc rfl (.tmp 8 rfl rfl) (Xt _),trivial⟩ (.k (.s .o .z)) (.kkkk (.kddd (.dd .z))) fun a w hI=>?_
    refine Xo ?_
    refine Qb ?_
    refine Z3 hI 3 [] [] [Uc 0 35 _,Uc 1 36 _,Uc 2 8 _] (.k (.k .z)) (.kkkk (.t 2 .z)) ⟨mv,bl,mv,trivial⟩ (.k (.k .z)) (.kkkk (.dddk .z)) fun a w hI=>?_
    refine Qb ?_
    exact⟨k2+1,⟨(show k2+1≤A.length by omega),(hI.conv ⟨⟨0,_,_,rfl,⟨rfl,rfl,rfl⟩,rfl,fun _=>fun _ _ h=>h⟩,⟨1,_,_,rfl,⟨rfl,rfl,rfl⟩,rfl,fun _=>(Zh (Wd fun _ _ u=>u))⟩,trivial⟩ ⟨⟨rfl,rfl,1,_,rfl,fun _ _ h=>h⟩,⟨rfl,rfl,2,_,rfl,fun _ _ h=>h⟩,⟨rfl,rfl,3,_,rfl,fun _ _ h=>h⟩,⟨rfl,rfl,4,_,rfl,(Qw (by omega))⟩,trivial⟩)⟩,(show A.length-(k2+1)<A.length-k2 by omega)⟩
   ·have t3:=of_decide_eq_false ht
    refine wp_exit ?_
    refine Ql ?_
    refine Ql ?_
    refine Q7 ?_
    refine Qb ?_
    obtain⟨g2,hI⟩:=hI.openRow 1 rfl rfl rfl
    refine Q3 hI 5 [] [] [Uc 0 41 _,Uc 1 42 _,Uc 2 43 _,Uc 3 44 (Qi (.pointer (some ⟨g2,0+((q.k:Int)).toNat*3,none⟩)))] (.k (.u none [(4,pv (Yb 3 true A.length (Zx (Yl k2 (fun _=>Qr 0) Q4) q.k (Qr ((1:Int):Rat)))))] .z)) (.kkkk (.kk .z)) ⟨mv,mv,ce1 (X3 _) (Qce 1 (by omega) (by omega)),Qs (.tmp 6 rfl rfl) (.tmp 7 rfl rfl) Xz (by omega) (by omega) (by kernel_rfl) (.here 9 rfl),Ji (sz:=3) (n:=A.length) (q:=q.k) (ag:=true) (f:=Yl k2 (fun _=>Qr 0) Q4) (p:=Qr ((1:Int):Rat)) 1 rfl rfl rfl (by kernel_rfl) rfl rfl 0 rfl (by kernel_rfl) (by kernel_rfl) (.tmp 0 rfl rfl) (.tmp 9 rfl rfl) (show 0+((q.k:Int)).toNat*3=q.k*3 by omega) (by omega) Yc rfl (.tmp 8 rfl rfl) (Xt _),trivial⟩ (.k (.s .o .z)) (.kkkk (.dddd (.dd .z))) fun a w hI=>?_
    replace hI:=hI.restRow (n0:=1) (k0:=0) (f':=(fun i=>Qr ((eB A.length q.k).getD i 0))) rfl (by kernel_rfl) (by omega) (fun i hi w v u=>by rw[show k2=A.length by omega]at u; exact eB_cell hi w v u)
    refine Q3 hI 8 [] [] [Uc 0 46 _,Uc 1 47 _,Uc 2 48 _,Uc 3 45 _,Uc 4 49 _,Uc 5 50 _,Uc 6 9 _,Uc 7 10 _] (.k .z) (.kkkk .z) ⟨mv,mv,Ui ((by have h:=Qft (A:=A) (b:=eB A.length q.k) hR h4 (eB_len _ _) hb (fun k=>(eB_bd _ _ k).mono hj.1) hj hd; rw[Qap (eB_len A.length q.k)]at h; exact h)),mv,ext,ext,mv,mv,trivial⟩ (.k .z) (.dkkk (.dddd (.ddkk .z))) fun a w hI=>?_
    refine wp_seq ?_
    refine Q3 hI 2 [] [] [Uc 0 51 _,Uc 1 52 (pB false)] (.k .z) (.kkkk (.k .z)) ⟨mv,Q6 (v:=.bool (false)) (.tmp 5 rfl rfl) (.const _) (fun _=>rfl) (.here 6 rfl),trivial⟩ (.k .z) (.kkkk (.kdk .z)) fun a w hI=>?_
    refine Xv hI 5 rfl ?_
    refine wp_skip ?_
    refine Qb ?_
    refine Q3 hI 1 [] [] [Uc 0 11 _] (.k .z) (.kkkk (.kk .z)) ⟨mv,trivial⟩ (.k .z) (.kkkk (.ddk .z)) fun a w hI=>?_
    refine wp_block ?_
    refine Q9 (fun(q3:GI) a w=>(q3.k≤A.length∧GridOk 3 true z.g A.length z.R (X9 A.length (vF A q.k q3.k)) q3.H)∧Inv ⟨71,w0,M,fun _=>False⟩ [⟨21,21,none,none,.obj,0,0,false,Zo q3.H,[]⟩] [] [⟨none,none,0,Qc 1 false A.length (fun i=>Qk (A.getD i []))⟩,⟨none,none,5,Qi (.slice (some ⟨z.g,0,none⟩) A.length A.length)⟩,⟨none,none,6,pI (q.k:Int)⟩,⟨none,none,9,Qk (Jj A (eB A.length q.k))⟩,⟨none,none,11,pI (q3.k:Int)⟩] Qf a w) (fun(q3:GI)=>A.length-q3.k) (⟨0,z.R,q.H⟩) ⟨⟨Nat.zero_le _,hB1⟩,(hI.conv ⟨⟨0,_,_,rfl,⟨rfl,rfl,rfl⟩,rfl,fun _=>(fun _ _ h=>h)⟩,trivial⟩ ⟨⟨rfl,rfl,0,_,rfl,fun _ _ h=>h⟩,⟨rfl,rfl,1,_,rfl,fun _ _ h=>h⟩,⟨rfl,rfl,2,_,rfl,fun _ _ h=>h⟩,⟨rfl,rfl,3,_,rfl,fun _ _ h=>h⟩,⟨rfl,rfl,4,_,rfl,(Qw rfl)⟩,trivial⟩)⟩ ?_
    intro q3 a w hIk
    obtain⟨⟨hk3,hB3⟩,hI⟩:=hIk
    refine wp_seq ?_
    refine Q3 hI 4 [] [] [Uc 0 54 _,Uc 1 55 _,Uc 2 56 (pI (A.length:Int)),Uc 3 57 _] (.k .z) (.kkkk (.k .z)) ⟨mv,mv,Qm (.tmp 6 rfl rfl) (Qy).under (.here 7 rfl),bl,trivial⟩ (.k .z) (.kkkk (.kddd (.k .z))) fun a w hI=>?_
    refine Xa hI 5 rfl (fun ht=>?_) (fun ht=>?_)
    ·have t4:=of_decide_eq_true ht
     refine wp_skip ?_
     refine Qb ?_
     refine wp_seq ?_
     refine wp_block ?_
     obtain⟨r,hr1⟩:=hB3.at_ (i:=q3.k) (by omega) (by rw[Zd]; omega)
     have hrn:=(hB3.rows q3.k r (by omega) hr1).1
     rw[Zd]at hrn
     have hsl:(Jj A (eB A.length q.k)).length=A.length:=Qgw
     refine srD hI [0,0,3,7,0,0,0,96,224,511,1023] [] [] [Uc 0 60 _,Uc 1 61 _,Uc 2 62 (Qi (.pointer (some ⟨z.g,0+((q3.k:Int)).toNat*1,none⟩))),Uc 3 63 (Qi (.slice (some ⟨r.b,0,none⟩) r.n r.cap)),Uc 4 64 _,Uc 5 65 _,Uc 6 66 _,Uc 7 67 _,Uc 8 68 (Qr ((Jj A (eB A.length q.k)).getD q3.k 0)),Uc 9 69 (Qi (.pointer (some ⟨r.b,0+((q.k:Int)).toNat*3,none⟩)))] (.u none [(10,Zo (Ye q3.H r.b q.k (Zr ((Jj A (eB A.length q.k)).getD q3.k 0))))] .z) (.kkkk (.kk .z)) ⟨mv,mv,Qs (.tmp 6 rfl rfl) (.tmp 7 rfl rfl) Qy (by omega) (by omega) (by kernel_rfl) (.here 8 rfl),Yv (e:=⟨z.g,1,false,Vf z.R⟩) (idx:=q3.k) 0 rfl rfl rfl (by kernel_rfl) rfl (.tmp 8 rfl rfl) hB3.top rfl (hB3.hd (by omega) hr1) (show 0+((q3.k:Int)).toNat*1=q3.k*1 by omega) Jt (.here 9 rfl),mv,mv,mv,Ky Xz,Q5 (.tmp 13 rfl rfl) Yc (Xt _) (.here 14 rfl),Qs (.tmp 9 rfl rfl) (.tmp 10 rfl rfl) Xz (by omega) (by omega) (by kernel_rfl) (.here 15 rfl),Zn (e:=⟨r.b,3,true,X9 A.length (vF A q.k q3.k) q3.k⟩) (idx:=q.k) (it:=Zr ((Jj A (eB A.length q.k)).getD q3.k 0)) 0 rfl rfl rfl (by kernel_rfl) 0 rfl (by kernel_rfl) (by kernel_rfl) rfl (.tmp 15 rfl rfl) (hB3.rows q3.k r (by omega) hr1).2.2.2.1 rfl (by rw[Zd]; omega) (show 0+((q.k:Int)).toNat*3=q.k*3 by omega) Yc (.tmp 14 rfl rfl) (Xt _),trivial⟩ (.s .o .z) (.kkkk (.kddd (.d8 .z))) fun a w hI=>?_
     refine Xo ?_
     refine Qb ?_
     refine Z3 hI 3 [] [] [Uc 0 58 _,Uc 1 59 _,Uc 2 11 _] (.k .z) (.kkkk (.t 2 .z)) ⟨mv,bl,mv,trivial⟩ (.k .z) (.kkkk (.dddk .z)) fun a w hI=>?_
     refine Qb ?_
     exact⟨⟨q3.k+1,z.R,Ye q3.H r.b q.k (Zr ((Jj A (eB A.length q.k)).getD q3.k 0))⟩,⟨⟨by show q3.k+1≤A.length; omega,(hB3.set (k:=q.k) (it:=Zr ((Jj A (eB A.length q.k)).getD q3.k 0)) (by omega) hr1).congr fun i _=>(Qdl i).trans (by rw[vF_step])⟩,(hI.conv ⟨⟨0,_,_,rfl,⟨rfl,rfl,rfl⟩,rfl,fun _=>fun _ _ h=>h⟩,trivial⟩ ⟨⟨rfl,rfl,0,_,rfl,fun _ _ h=>h⟩,⟨rfl,rfl,1,_,rfl,fun _ _ h=>h⟩,⟨rfl,rfl,2,_,rfl,fun _ _ h=>h⟩,⟨rfl,rfl,3,_,rfl,fun _ _ h=>h⟩,⟨rfl,rfl,4,_,rfl,(Qw (by show((q3.k:Int)+1)=((q3.k+1:Nat):Int); omega))⟩,trivial⟩)⟩,(show A.length-(q3.k+1)<A.length-q3.k by omega)⟩
    ·have t5:=of_decide_eq_false ht
     refine wp_exit ?_
     refine Ql ?_
     refine Ql ?_
     refine Q7 ?_
     refine Xo ?_
     refine Qb ?_
     refine Z3 hI 3 [] [] [Uc 0 26 _,Uc 1 27 _,Uc 2 6 _] (.k .z) (.kk (.t 2 (.kkk .z))) ⟨mv,bl,mv,trivial⟩ (.k .z) (.kkdd (.dddd (.k .z))) fun a w hI=>?_
     refine Qb ?_
     exact⟨⟨q.k+1,z.R,q3.H⟩,⟨⟨by show q.k+1≤A.length; omega,by rw[show q3.k=A.length by omega]at hB3; exact hB3.congr fun i hi=>vF_col i hi _⟩,(hI.conv ⟨⟨0,_,_,rfl,⟨rfl,rfl,rfl⟩,rfl,fun _=>fun _ _ h=>h⟩,trivial⟩ ⟨⟨rfl,rfl,0,_,rfl,fun _ _ h=>h⟩,⟨rfl,rfl,1,_,rfl,fun _ _ h=>h⟩,⟨rfl,rfl,2,_,rfl,(Qw (by show((q.k:Int)+1)=((q.k+1:Nat):Int); omega))⟩,trivial⟩)⟩,(show A.length-(q.k+1)<A.length-q.k by omega)⟩
  ·have t6:=of_decide_eq_false ht
   refine wp_exit ?_
   refine Ql ?_
   refine Ql ?_
   refine Q7 ?_
   refine Qb ?_
   refine Q3 hI 3 [] [] [Uc 0 70 _,Uc 1 2 _,Uc 2 3 _] (.k .z) (.kkkk .z) ⟨mv,mv,mv,trivial⟩ (.k .z) (.dddd (.dkk .z)) fun a w hI=>?_
   refine wp_ret ?_
   exact finObj2 hI rfl (n0:=0) rfl (.tmp 0 rfl) (.tmp 1 rfl) (p:=Qc 1 false A.length (fun i=>Qk ((Wk A (Um A.length)).getD i []))) (fun B' w hH=>Qfm (fun i hi=>by rw[Qhx hr (fun i hi=>Qam hi) i (by rw[Jx]; exact hi)]) (fun i k hi hk=>by rw[show q.k=A.length by omega]; exact vF_fin hr hd hi hk) w _ (hB1.read (Nat.le_refl _) (by omega) B' w hH))
theorem Qir {A:List (List Rat)} {j:Nat} (hR:SqOk A) (h4:A.length<5) (hb:BdX j A) (hj:1≤j∧j≤2000) (hd:Xk A.length (ent A)=0):∀(M:Nat→Nat→Prop) (w:World) (v0:Value),Mid M w→Box M (fun w=>(Qc 1 false A.length (fun i=>Qk (A.getD i []))) w v0) w→Calls Tryz.prog 27 #[v0] w (RetB M (Xr (Qi (.slice none 0 0)) (pI 6)) w):=by
 intro M w0 v0 hM hv0
 have h0:=hR.1.rows
 have hr:=hR.rect
 refine Yk (N:=71) Tryz.func27 rfl rfl rfl hM (show EntsA M w0 [v0] [⟨none,none,0,Qc 1 false A.length (fun i=>Qk (A.getD i []))⟩]from⟨⟨rfl,_,rfl,hv0⟩,trivial⟩) fun a hI=>?_
 refine Qj hI 2 [Uc 0 2 _,Uc 1 3 _] (.k .z) ⟨mv,mv,trivial⟩ (.kkk .z) fun a w hI=>?_
 refine wp_seq ?_
 refine Qj hI 3 [Uc 0 12 _,Uc 1 13 _,Uc 2 4 _] (.kkk .z) ⟨mv,Z0 ((by have h:=Qbk (A:=A) (by omega); rw[Qc6 hR.1 hR.2]at h; exact h)) (Ya rfl),mv,trivial⟩ (.kkkd (.dk .z)) fun a w hI=>?_
 refine Qj hI 2 [Uc 0 14 _,Uc 1 15 (pB false)] (.kkkk .z) ⟨mv,Q6 (v:=.bool (false)) (.tmp 4 rfl rfl) (.const _) (fun _=>rfl) (.here 5 rfl),trivial⟩ (.kkkk (.dk .z)) fun a w hI=>?_
 refine Xv hI 4 rfl ?_
 refine wp_skip ?_
 refine Qb ?_
 refine Vz hI [] [] [⟨some 0,none,17,Qc 1 false A.length (fun i=>Qk (A.getD i []))⟩,⟨some 1,none,18,pI (A.length:Int)⟩,⟨some 2,none,19,Qc 1 false A.length (fun i=>Qk (A.getD i []))⟩,⟨some 3,none,20,pI (A.length:Int)⟩] .z (.kkkk (.k .z)) rfl [0,1,3,7,15,31] 4 (by kernel_rfl) ?_ .z (.kkkd (.ddkd (.k .z))) (fun a w hI=>hI) (⟨_,fun a w hI=>Qbb 21 (fun _ _=>by kernel_rfl) hI (.tmp 3 rfl rfl) (.tmp 4 rfl rfl) (fun M w v1 v2 hM h1 h2=>Qe5 (n:=A.length) (m:=A.length) (by omega) (by omega) M w v1 v2 hM h1 h2) (by kernel_rfl) (by kernel_rfl) (by kernel_rfl),
   _,U2 fun l hC a w hI=>Jw hI [] [⟨some 0,none,5,Qi (.slice (some ⟨l.g,0,none⟩) A.length A.length)⟩] (.k .z) (.kkkk (.kk .z)) (by kernel_rfl) (Ys (.tmp 0 rfl rfl) (.here 6 rfl)) (.k .z) (.dkkk (.ddk .z)),
   rfl⟩) ?_
 ·exact⟨Qx (.tmp 0 rfl rfl) (.here 5 rfl),Qm (.tmp 5 rfl rfl) (Qy).under (.here 6 rfl),Qx (.tmp 0 rfl rfl) (.here 7 rfl),Qm (.tmp 7 rfl rfl) (Qy).under (.here 8 rfl),trivial⟩
 ·rintro a w ⟨z,hC,hI⟩
  have hC:GridOk 3 true z.g A.length z.R (X9 A.length (fun _ _=>Zr 0)) z.H:=hC
  refine wp_seq ?_
  refine Q3 hI 1 [] [] [Uc 0 6 _] (.k .z) (.kkkk .z) ⟨mv,trivial⟩ (.k .z) (.kkkk (.k .z)) fun a w hI=>?_
  refine wp_block ?_
  refine Q9 (fun(q:GI) a w=>(q.k≤A.length∧q.k=0∧GridOk 3 true z.g A.length z.R (X9 A.length (vF A q.k 0)) q.H)∧Inv ⟨71,w0,M,fun _=>False⟩ [⟨21,21,none,none,.obj,0,0,false,Zo q.H,[]⟩] [] [⟨none,none,0,Qc 1 false A.length (fun i=>Qk (A.getD i []))⟩,⟨none,none,5,Qi (.slice (some ⟨z.g,0,none⟩) A.length A.length)⟩,⟨none,none,6,pI (q.k:Int)⟩] Qf a w) (fun(q:GI)=>A.length-q.k) (⟨0,z.R,z.H⟩) ⟨⟨Nat.zero_le _,rfl,hC.congr fun i _=>vF_zero i⟩,(hI.conv ⟨⟨0,_,_,rfl,⟨rfl,rfl,rfl⟩,rfl,fun _=>(fun _ _ h=>h)⟩,trivial⟩ ⟨⟨rfl,rfl,0,_,rfl,fun _ _ h=>h⟩,⟨rfl,rfl,3,_,rfl,fun _ _ h=>h⟩,⟨rfl,rfl,4,_,rfl,(Qw rfl)⟩,trivial⟩)⟩ ?_
  intro q a w hIk
  obtain⟨⟨hk,hk0,hB1⟩,hI⟩:=hIk
  refine wp_seq ?_
  refine Q3 hI 4 [] [] [Uc 0 22 _,Uc 1 23 _,Uc 2 24 (pI (A.length:Int)),Uc 3 25 _] (.k .z) (.kkk .z) ⟨mv,mv,Qm (.tmp 4 rfl rfl) (Qy).under (.here 5 rfl),bl,trivial⟩ (.k .z) (.kkkd (.ddk .z)) fun a w hI=>?_
  refine Xa hI 3 rfl (fun ht=>?_) (fun ht=>?_)
  ·have t1:=of_decide_eq_true ht
   refine wp_skip ?_
   refine Qb ?_
   refine wp_seq ?_
   refine wp_block ?_
   refine Q3 hI 4 [⟨30,30,some 2,some 3,(.row A.length),42,(A.length*3),true,pv (Yb 3 true A.length (fun _=>Q4)),[]⟩,⟨7,7,some 3,none,(.row A.length),42,(A.length*3),true,pv (Yb 3 true A.length (fun _=>Q4)),[]⟩] [] [Uc 0 28 _,Uc 1 29 (pI (A.length:Int))] (.k .z) (.kkkk .z) ⟨mv,Qm (.tmp 4 rfl rfl) (Qy).under (.here 5 rfl),Jp (n:=A.length) (p0:=Q4) (zv:=.agg #[.bool false,.slice none 0 0,.slice none 0 0]) (z:=[.bool false,.slice none 0 0,.slice none 0 0]) 1 rfl rfl (by kernel_rfl) (by kernel_rfl) (by kernel_rfl) rfl rfl rfl rfl rfl (.tmp 5 rfl rfl) (.tmp 5 rfl rfl) (Xz).under (by kernel_rfl) rfl rfl (by omega) (by simp[Yw]) (fun _=>trivial) (by omega),K9 1 rfl rfl rfl rfl rfl (by kernel_rfl) rfl 2 rfl rfl rfl rfl rfl rfl rfl rfl (by kernel_rfl) (by kernel_rfl),trivial⟩ (.k (.d (.k .z))) (.kkkd (.dd .z)) fun a w hI=>?_
   refine wp_seq ?_
   refine Q3 hI 1 [] [] [Uc 0 8 _] (.k (.k .z)) (.kkk .z) ⟨mv,trivial⟩ (.k (.k .z)) (.kkkk .z) fun a w hI=>?_
   refine wp_block ?_
   refine Q9 (fun(k2:Nat) a w=>(k2≤A.length)∧Inv ⟨71,w0,M,fun _=>False⟩ [⟨21,21,none,none,.obj,0,0,false,Zo q.H,[]⟩,⟨7,7,none,none,(.row A.length),42,(A.length*3),true,pv (Yb 3 true A.length (Yl k2 (fun _=>Qr 0) Q4)),[]⟩] [] [⟨none,none,0,Qc 1 false A.length (fun i=>Qk (A.getD i []))⟩,⟨none,none,5,Qi (.slice (some ⟨z.g,0,none⟩) A.length A.length)⟩,⟨none,none,6,pI (q.k:Int)⟩,⟨none,none,8,pI (k2:Int)⟩] Qf a w) (fun(k2:Nat)=>A.length-k2) (0) ⟨Nat.zero_le _,(hI.conv ⟨⟨0,_,_,rfl,⟨rfl,rfl,rfl⟩,rfl,fun _=>fun _ _ h=>h⟩,⟨1,_,_,rfl,⟨rfl,rfl,rfl⟩,rfl,fun _=>(Zh Vn)⟩,trivial⟩ ⟨⟨rfl,rfl,0,_,rfl,fun _ _ h=>h⟩,⟨rfl,rfl,1,_,rfl,fun _ _ h=>h⟩,⟨rfl,rfl,2,_,rfl,fun _ _ h=>h⟩,⟨rfl,rfl,3,_,rfl,(Qw (by omega))⟩,trivial⟩)⟩ ?_
   intro k2 a w hIk
   obtain⟨hp2,hI⟩:=hIk
   refine wp_seq ?_
   refine Q3 hI 4 [] [] [Uc 0 31 _,Uc 1 32 _,Uc 2 33 (pI (A.length:Int)),Uc 3 34 _] (.k (.k .z)) (.kkkk .z) ⟨mv,mv,Qm (.tmp 5 rfl rfl) (Qy).under (.here 6 rfl),bl,trivial⟩ (.k (.k .z)) (.kkkk (.dddk .z)) fun a w hI=>?_
   refine Xa hI 4 rfl (fun ht=>?_) (fun ht=>?_)
   ·have t2:=of_decide_eq_true ht
    refine wp_skip ?_
    refine Qb ?_
    refine wp_seq ?_
    refine wp_block ?_
    obtain⟨g1,hI⟩:=hI.openRow 1 rfl rfl rfl
    refine Z3 hI 5 [] [] [Uc 0 37 _,Uc 1 38 _,Uc 2 39 _,Uc 3 40 (Qi (.pointer (some ⟨g1,0+((k2:Int)).toNat*3,none⟩)))] (.k (.u none [(4,pv (Yb 3 true A.length (Zx (Yl k2 (fun _=>Qr 0) Q4) k2 (Qr ((0:Int):Rat)))))] .z)) (.kkkk (.kk .z)) ⟨mv,mv,ce1 (X3 _) (Qce 0 (by omega) (by omega)),Qs (.tmp 6 rfl rfl) (.tmp 7 rfl rfl) Xz (by omega) (by omega) (by kernel_rfl) (.here 9 rfl),Ji (sz:=3) (n:=A.length) (q:=k2) (ag:=true) (f:=Yl k2 (fun _=>Qr 0) Q4) (p:=Qr ((0:Int):Rat)) 1 rfl rfl rfl (by kernel_rfl) rfl rfl 0 rfl (by kernel_rfl) (by kernel_rfl) (.tmp 0 rfl rfl) (.tmp 9 rfl rfl) (show 0+((k2:Int)).toNat*3=k2*3 by omega) (by omega) Yc rfl (.tmp 8 rfl rfl) (Xt _),trivial⟩ (.k (.s .o .z)) (.kkkk (.kddd (.dd .z))) fun a w hI=>?_
    refine Xo ?_
    refine Qb ?_
    refine Z3 hI 3 [] [] [Uc 0 35 _,Uc 1 36 _,Uc 2 8 _] (.k (.k .z)) (.kkkk (.t 2 .z)) ⟨mv,bl,mv,trivial⟩ (.k (.k .z)) (.kkkk (.dddk .z)) fun a w hI=>?_
    refine Qb ?_
    exact⟨k2+1,⟨(show k2+1≤A.length by omega),(hI.conv ⟨⟨0,_,_,rfl,⟨rfl,rfl,rfl⟩,rfl,fun _=>fun _ _ h=>h⟩,⟨1,_,_,rfl,⟨rfl,rfl,rfl⟩,rfl,fun _=>(Zh (Wd fun _ _ u=>u))⟩,trivial⟩ ⟨⟨rfl,rfl,1,_,rfl,fun _ _ h=>h⟩,⟨rfl,rfl,2,_,rfl,fun _ _ h=>h⟩,⟨rfl,rfl,3,_,rfl,fun _ _ h=>h⟩,⟨rfl,rfl,4,_,rfl,(Qw (by omega))⟩,trivial⟩)⟩,(show A.length-(k2+1)<A.length-k2 by omega)⟩
   ·have t3:=of_decide_eq_false ht
    refine wp_exit ?_
    refine Ql ?_
    refine Ql ?_
    refine Q7 ?_
    refine Qb ?_
    obtain⟨g2,hI⟩:=hI.openRow 1 rfl rfl rfl
    refine Q3 hI 5 [] [] [Uc 0 41 _,Uc 1 42 _,Uc 2 43 _,Uc 3 44 (Qi (.pointer (some ⟨g2,0+((q.k:Int)).toNat*3,none⟩)))] (.k (.u none [(4,pv (Yb 3 true A.length (Zx (Yl k2 (fun _=>Qr 0) Q4) q.k (Qr ((1:Int):Rat)))))] .z)) (.kkkk (.kk .z)) ⟨mv,mv,ce1 (X3 _) (Qce 1 (by omega) (by omega)),Qs (.tmp 6 rfl rfl) (.tmp 7 rfl rfl) Xz (by omega) (by omega) (by kernel_rfl) (.here 9 rfl),Ji (sz:=3) (n:=A.length) (q:=q.k) (ag:=true) (f:=Yl k2 (fun _=>Qr 0) Q4) (p:=Qr ((1:Int):Rat)) 1 rfl rfl rfl (by kernel_rfl) rfl rfl 0 rfl (by kernel_rfl) (by kernel_rfl) (.tmp 0 rfl rfl) (.tmp 9 rfl rfl) (show 0+((q.k:Int)).toNat*3=q.k*3 by omega) (by omega) Yc rfl (.tmp 8 rfl rfl) (Xt _),trivial⟩ (.k (.s .o .z)) (.kkkk (.dddd (.dd .z))) fun a w hI=>?_
    replace hI:=hI.restRow (n0:=1) (k0:=0) (f':=(fun i=>Qr ((eB A.length q.k).getD i 0))) rfl (by kernel_rfl) (by omega) (fun i hi w v u=>by rw[show k2=A.length by omega]at u; exact eB_cell hi w v u)
    refine Q3 hI 8 [] [] [Uc 0 46 _,Uc 1 47 _,Uc 2 48 _,Uc 3 45 _,Uc 4 49 _,Uc 5 50 _,Uc 6 9 _,Uc 7 10 _] (.k .z) (.kkkk .z) ⟨mv,mv,Ui ((by have h:=Qdp (A:=A) (b:=eB A.length q.k) hR h4 (eB_len _ _) hb (fun k=>(eB_bd _ _ k).mono hj.1) hj hd; rw[Qap (eB_len A.length q.k)]at h; exact h)),mv,ext,ext,mv,mv,trivial⟩ (.k .z) (.dkkk (.dddd (.ddkk .z))) fun a w hI=>?_
    refine wp_seq ?_
    refine Q3 hI 2 [] [] [Uc 0 51 _,Uc 1 52 (pB true)] (.k .z) (.kkkk (.k .z)) ⟨mv,Q6 (v:=.bool (true)) (.tmp 5 rfl rfl) (.const _) (fun _=>rfl) (.here 6 rfl),trivial⟩ (.k .z) (.kkkk (.kdk .z)) fun a w hI=>?_
    refine Y9 hI 5 rfl ?_
    refine Q3 hI 3 [] [] [Uc 0 53 _,Uc 1 2 _,Uc 2 3 _] (.k .z) (.kkkk (.kk .z)) ⟨mv,mv,mv,trivial⟩ (.k .z) (.kkkk (.dddk (.k .z))) fun a w hI=>?_
    refine wp_ret ?_
    refine Xf ?_
    refine Z5 ?_
    refine Xf ?_
    refine Xf ?_
    refine Z5 ?_
    refine Xf ?_
    exact K3 hI rfl (.tmp 4 rfl) (.tmp 5 rfl)
  ·have t4:=of_decide_eq_false ht
   refine wp_exit ?_
   refine Ql ?_
   refine Ql ?_
   refine Q7 ?_
   refine Qb ?_
   refine Q3 hI 3 [] [] [Uc 0 70 _,Uc 1 2 _,Uc 2 3 _] (.k .z) (.kkkk .z) ⟨mv,mv,mv,trivial⟩ (.k .z) (.dddd (.dkk .z)) fun a w hI=>?_
   refine wp_ret ?_
   exact(show False by omega).elim
theorem cn_Inverse_no {A:List (List Rat)} (hAl:A.length≤1000000) (hR:¬SqOk A):∀(M:Nat→Nat→Prop) (w:World) (v0:Value),Mid M w→Box M (fun w=>(Qc 1 false A.length (fun i=>Qk (A.getD i []))) w v0) w→Calls Tryz.prog 27 #[v0] w (RetB M (Xr (Qi (.slice none 0 0)) (pI 4)) w):=by
 intro M w0 v0 hM hv0
 refine Q8 (N:=71) Tryz.func27 rfl rfl rfl hM (show EntsA M w0 [v0] [⟨none,none,0,Qc 1 false A.length (fun i=>Qk (A.getD i []))⟩]from⟨⟨rfl,_,rfl,hv0⟩,trivial⟩) fun a hI=>?_
 refine Qj hI 2 [Uc 0 2 _,Uc 1 3 _] (.k .z) ⟨mv,mv,trivial⟩ (.kkk .z) fun a w hI=>?_
 refine wp_seq ?_
 refine Qj hI 3 [Uc 0 12 _,Uc 1 13 _,Uc 2 4 _] (.kkk .z) ⟨mv,Z0 ((by have h:=Qbk (A:=A) (by omega); rw[Qgx hR]at h; exact h)) (Ya rfl),mv,trivial⟩ (.kkkd (.dk .z)) fun a w hI=>?_
 refine Qj hI 2 [Uc 0 14 _,Uc 1 15 (pB true)] (.kkkk .z) ⟨mv,Q6 (v:=.bool (true)) (.tmp 4 rfl rfl) (.const _) (fun _=>rfl) (.here 5 rfl),trivial⟩ (.kkkk (.dk .z)) fun a w hI=>?_
 refine Y9 hI 4 rfl ?_
 refine Qj hI 3 [Uc 0 16 _,Uc 1 2 _,Uc 2 3 _] (.k (.t 1 (.t 2 (.kk .z)))) ⟨mv,mv,mv,trivial⟩ (.kddd (.ddkk .z)) fun a w hI=>?_
 refine wp_ret ?_
 refine Xf ?_
 exact K3 hI rfl (.tmp 1 rfl) (.tmp 2 rfl)
end Wx
