import Derived.Test.YtpiniclogfefjaaGreatJSolves34
import Derived.Test.YtpiniclogfefjaaGreatJSolves37
namespace Wx
attribute [local irreducible] Q0
set_option maxRecDepth 100000
open Go Go.RowKit Go.Proofs
set_option linter.unusedVariables false

theorem c_light {L:List FD} (hL:L.length≤9223372036854775807):∀(M:Nat→Nat→Prop) (w:World) (v0:Value),Mid M w→Box M (fun w=>(Qc 2 true L.length (fun i=>Y6 (L.getD i Yr).1 (L.getD i Yr).2.1)) w v0) w→Calls Tryz.prog 12 #[v0] w (RetB M (pB (W6 L)) w):=by
 intro M w0 v0 hM hv0
 refine Q8 (N:=25) Tryz.func12 rfl rfl rfl hM (show EntsA M w0 [v0] [⟨none,none,0,Qc 2 true L.length (fun i=>Y6 (L.getD i Yr).1 (L.getD i Yr).2.1)⟩]from⟨⟨rfl,_,rfl,hv0⟩,trivial⟩) fun a hI=>?_
 refine Qj hI 1 [Uc 0 2 _] (.k .z) ⟨mv,trivial⟩ (.kk .z) fun a w hI=>?_
 refine wp_seq ?_
 refine Qj hI 3 [Uc 0 5 _,Uc 1 6 (pI (L.length:Int)),Uc 2 7 _] (.kk .z) ⟨mv,Qm (.tmp 2 rfl rfl) (Va).under (.here 3 rfl),mv,trivial⟩ (.dkkk (.k .z)) fun a w hI=>?_
 refine wp_block ?_
 refine Q9 (fun(k:Nat) a w=>(k≤L.length∧∀q,q<k→lightE (L.getD q Yr)=true)∧Inv ⟨25,w0,M,fun _=>False⟩ [] [] [⟨none,none,5,Qc 2 true L.length (fun i=>Y6 (L.getD i Yr).1 (L.getD i Yr).2.1)⟩,⟨none,none,6,pI (L.length:Int)⟩,⟨none,none,7,pI (k:Int)⟩] Qf a w) (fun(k:Nat)=>L.length-k) (0) ⟨⟨Nat.zero_le _,fun q hq=>by omega⟩,(hI.conv trivial ⟨⟨rfl,rfl,1,_,rfl,fun _ _ h=>h⟩,⟨rfl,rfl,2,_,rfl,fun _ _ h=>h⟩,⟨rfl,rfl,3,_,rfl,(Qw (by omega))⟩,trivial⟩)⟩ ?_
 intro k a w hIk
 obtain⟨hp,hI⟩:=hIk
 refine Qj hI 1 [Uc 0 8 _] (.kkk .z) ⟨bl,trivial⟩ (.kkkk .z) fun a w hI=>?_
 refine wp_seq ?_
 refine Xa hI 3 rfl (fun ht=>?_) (fun ht=>?_)
 ·have t1:=of_decide_eq_true ht
  refine wp_skip ?_
  refine Qb ?_
  refine wp_seq ?_
  refine wp_block ?_
  refine Q3 hI 4 [⟨4,4,some 2,none,.ptr,82,2,true,pv (Y6 0 0),[(3,pv (Y6 ((L.getD k Yr).1) ((L.getD k Yr).2.1)))]⟩] [] [Uc 0 9 _,Uc 1 10 (Y6 ((L.getD k Yr).1) ((L.getD k Yr).2.1))] .z (.kkkk .z) ⟨Ky Va,Q5 (.tmp 4 rfl rfl) Qee (Qfl _ _) (.here 5 rfl),Jv 0 rfl rfl (by kernel_rfl) (by kernel_rfl) rfl rfl rfl zv_Frac rfl rfl (by simp[Yw]) rfl (fun w=>pFrac_of 0 0 w),Za 0 rfl rfl rfl rfl 0 rfl (by kernel_rfl) (by kernel_rfl) Qee (.tmp 5 rfl rfl) (Qfl _ _),trivial⟩ (.s .o .z) (.kkkd (.dd .z)) fun a w hI=>?_
  refine Q3 hI 13 [] [⟨some 0,11,4,0,True⟩,⟨some 4,15,4,0,(decide (((L.getD k Yr).1)>(16777216:Int)))=false⟩,⟨some 9,20,4,1,((decide (((L.getD k Yr).1)>(16777216:Int)))||(decide (((L.getD k Yr).1)<(-16777216:Int))))=false⟩] [Uc 1 12 _,Uc 2 13 _,Uc 3 14 _,Uc 5 16 _,Uc 6 17 _,Uc 7 18 _,Uc 8 19 _,Uc 10 21 _,Uc 11 22 _,Uc 12 23 _] (.k .z) (.kkk .z) ⟨Zw 0 rfl rfl rfl 0 rfl rfl rfl rfl (.inl ⟨rfl,rfl⟩) rfl (by kernel_rfl) (fun b w=>fa_Frac_0 b 0 w),lda ty_int64,bl,mv,Jg 5 rfl rfl (fun hc=>Zw 0 rfl rfl rfl 1 rfl rfl rfl rfl (.inl ⟨rfl,rfl⟩) rfl (by kernel_rfl) (fun b w=>fa_Frac_0 b 0 w)) (by kernel_rfl) (fun hc=>.at_ 1 rfl rfl rfl hc) (fun hc=>.none (by kernel_rfl)),gd fun h=>glda h ty_int64,gd fun h=>gbl h,pk,mv,Jg 9 rfl rfl (fun hc=>Zw 0 rfl rfl rfl 2 rfl rfl rfl rfl (.inl ⟨rfl,rfl⟩) rfl (by kernel_rfl) (fun b w=>fa_Frac_1 b 0 w)) (by kernel_rfl) (fun hc=>.at_ 2 rfl rfl rfl hc) (fun hc=>.none (by kernel_rfl)),gd fun h=>glda h ty_int64,gd fun h=>gbl h,pk,trivial⟩ (.k .z) (.kkkd (.ddkk (.ddkk (.k .z)))) fun a w hI=>?_
  refine Xa hI 7 rfl (fun ht=>?_) (fun ht=>?_)
  ·have t2:=ht
   refine Q3 hI 1 [] [] [Uc 0 2 _] (.k .z) (.k8 .z) ⟨mv,trivial⟩ (.k .z) (.kkkk (.kkkd (.k .z))) fun a w hI=>?_
   refine wp_ret ?_
   refine Z5 ?_
   refine Xf ?_
   refine Xf ?_
   refine Z5 ?_
   refine Xf ?_
   exact Zu hI rfl (.imp (.tmp 7 rfl) (Yt ((show false=W6 L from(all_false (i:=k) (by omega) (by unfold lightE; rw[t2]; rfl)).symm))))
  ·have t3:=ht
   refine wp_skip ?_
   refine Xo ?_
   refine Qb ?_
   refine Z3 hI 2 [] [] [Uc 0 24 _,Uc 1 7 _] (.k .z) (.kk (.t 1 (.kkkk (.k .z)))) ⟨bl,mv,trivial⟩ (.k .z) (.kkdk (.kkkd (.dk .z))) fun a w hI=>?_
   refine Qb ?_
   exact⟨k+1,⟨⟨by omega,fun q hq=>by rcases Nat.lt_or_ge q k with h|h; exact hp.2 q h; rw[show q=k by omega]; exact(by unfold lightE; rw[t3]; rfl)⟩,(hI.conv trivial ⟨⟨rfl,rfl,0,_,rfl,fun _ _ h=>h⟩,⟨rfl,rfl,1,_,rfl,fun _ _ h=>h⟩,⟨rfl,rfl,6,_,rfl,(Qw (by omega))⟩,trivial⟩)⟩,(show L.length-(k+1)<L.length-k by omega)⟩
 ·have t4:=of_decide_eq_false ht
  refine wp_exit ?_
  refine Ql ?_
  refine Ql ?_
  refine Q7 ?_
  refine Qb ?_
  refine Qj hI 1 [Uc 0 2 _] (.kkkk .z) ⟨mv,trivial⟩ (.dddd (.k .z)) fun a w hI=>?_
  refine wp_ret ?_
  exact Zu hI rfl (.imp (.tmp 0 rfl) (Yt ((show true=W6 L from(all_true fun i hi=>hp.2 i (by omega)).symm))))
theorem small_yes {LL:List (List FD)} (h:sideB LL.length=false) (h2:∀i,i<LL.length→Qe8 (LL.getD i [])=true):true=Wo LL:=by
 unfold Wo
 rw[h,all_true h2]
 rfl
theorem small_no1 {LL:List (List FD)} (h:sideB LL.length=true):false=Wo LL:=by
 unfold Wo
 rw[h]
 rfl
theorem small_no2 {LL:List (List FD)} {i:Nat} (hi:i<LL.length) (h:Qe8 (LL.getD i [])=false):false=Wo LL:=by
 unfold Wo
 rw[all_false hi h,Bool.and_false]
theorem c_small {LL:List (List FD)} (hLL:LL.length≤9223372036854775807) (hLL2:∀i,i<LL.length→(LL.getD i []).length≤9223372036854775807):∀(M:Nat→Nat→Prop) (w:World) (v0:Value),Mid M w→Box M (fun w=>(Qc 1 false LL.length (fun i=>Qc 2 true (LL.getD i []).length (fun k=>Y6 ((LL.getD i []).getD k Yr).1 ((LL.getD i []).getD k Yr).2.1))) w v0) w→Calls Tryz.prog 6 #[v0] w (RetB M (pB (Wo LL)) w):=by
 intro M w0 v0 hM hv0
 refine Q8 (N:=43) Tryz.func6 rfl rfl rfl hM (show EntsA M w0 [v0] [⟨none,none,0,Qc 1 false LL.length (fun i=>Qc 2 true (LL.getD i []).length (fun k=>Y6 ((LL.getD i []).getD k Yr).1 ((LL.getD i []).getD k Yr).2.1))⟩]from⟨⟨rfl,_,rfl,hv0⟩,trivial⟩) fun a hI=>?_
 refine Qj hI 1 [Uc 0 2 _] (.k .z) ⟨mv,trivial⟩ (.kk .z) fun a w hI=>?_
 refine wp_seq ?_
 refine Qj hI 13 [Uc 0 5 _,Uc 1 6 (pI (LL.length:Int)),Uc 2 7 _,Uc 3 8 _,Uc 4 9 _,Uc 5 10 (Z2 ((decide ((LL.length:Int)>(4:Int)))=true) (pI (LL.length:Int))),Uc 6 11 _,Uc 7 12 _,Uc 8 13 _,Uc 9 14 _,Uc 10 15 (Z2 (((decide ((LL.length:Int)>(4:Int)))&&(decide ((LL.length:Int)≤(8:Int))))=false) (pI (LL.length:Int))),Uc 11 16 _,Uc 12 17 _] (.kk .z) ⟨mv,Qm (.tmp 2 rfl rfl) (Wb).under (.here 3 rfl),bl,mv,gd fun h=>gmv h,Jg 5 rfl rfl (fun hc=>Qm (.sel (.tmp 6 rfl rfl) hc) (Wb).under (.sel hc 7 rfl)) (by kernel_rfl) (fun _=>.none (by kernel_rfl)) (fun hc=>.sel_no hc 7 rfl),gd fun h=>gbl h,pk,mv,gd fun h=>gmv h,Jg 10 rfl rfl (fun hc=>Qm (.sel (.tmp 11 rfl rfl) hc) (Wb).under (.sel hc 12 rfl)) (by kernel_rfl) (fun _=>.none (by kernel_rfl)) (fun hc=>.sel_no hc 12 rfl),gd fun h=>gbl h,pk,trivial⟩ (.kkdd (.d8 (.ddk .z))) fun a w hI=>?_
 refine Xa hI 2 rfl (fun ht=>?_) (fun ht=>?_)
 ·have t1:=ht
  refine Qj hI 1 [Uc 0 2 _] (.k (.t 0 (.k .z))) ⟨mv,trivial⟩ (.kddk .z) fun a w hI=>?_
  refine wp_ret ?_
  refine Xf ?_
  exact Zu hI rfl (.imp (.tmp 1 rfl) (Yt (small_no1 t1)))
 ·have t2:=ht
  refine wp_skip ?_
  refine Qb ?_
  refine wp_seq ?_
  refine Qj hI 3 [Uc 0 18 _,Uc 1 19 (pI (LL.length:Int)),Uc 2 20 _] (.kkk .z) ⟨mv,Qm (.tmp 3 rfl rfl) (Wb).under (.here 4 rfl),mv,trivial⟩ (.dkdk (.kk .z)) fun a w hI=>?_
  refine wp_block ?_
  refine Q9 (fun(k:Nat) a w=>(k≤LL.length∧∀q,q<k→Qe8 (LL.getD q [])=true)∧Inv ⟨43,w0,M,fun _=>False⟩ [] [] [⟨none,none,18,Qc 1 false LL.length (fun i=>Qc 2 true (LL.getD i []).length (fun k=>Y6 ((LL.getD i []).getD k Yr).1 ((LL.getD i []).getD k Yr).2.1))⟩,⟨none,none,19,pI (LL.length:Int)⟩,⟨none,none,20,pI (k:Int)⟩] Qf a w) (fun(k:Nat)=>LL.length-k) (0) ⟨⟨Nat.zero_le _,fun q hq=>by omega⟩,(hI.conv trivial ⟨⟨rfl,rfl,1,_,rfl,fun _ _ h=>h⟩,⟨rfl,rfl,2,_,rfl,fun _ _ h=>h⟩,⟨rfl,rfl,3,_,rfl,(Qw (by omega))⟩,trivial⟩)⟩ ?_
  intro k a w hIk
  obtain⟨hp,hI⟩:=hIk
  refine Qj hI 1 [Uc 0 21 _] (.kkk .z) ⟨bl,trivial⟩ (.kkkk .z) fun a w hI=>?_
  refine wp_seq ?_
  refine Xa hI 3 rfl (fun ht=>?_) (fun ht=>?_)
  ·have t3:=of_decide_eq_true ht
   refine wp_skip ?_
   refine Qb ?_
   refine wp_seq ?_
   refine wp_block ?_
   refine Qj hI 3 [Uc 0 22 _,Uc 1 23 (Qc 2 true (LL.getD k []).length (fun i=>Y6 ((LL.getD k []).getD i Yr).1 ((LL.getD k []).getD i Yr).2.1)),Uc 2 4 _] (.kkkk .z) ⟨Ky Wb,Q5 (.tmp 4 rfl rfl) ty_Fracs (V3) (.here 5 rfl),mv,trivial⟩ (.kkkd (.ddk .z)) fun a w hI=>?_
   refine Qj hI 18 [Uc 0 24 _,Uc 1 25 (pI ((LL.getD k []).length:Int)),Uc 2 26 _,Uc 3 27 _,Uc 4 28 _,Uc 5 29 (Z2 ((decide (((LL.getD k []).length:Int)>(4:Int)))=true) (pI ((LL.getD k []).length:Int))),Uc 6 30 _,Uc 7 31 _,Uc 8 32 _,Uc 9 33 _,Uc 10 34 (Z2 (((decide (((LL.getD k []).length:Int)>(4:Int)))&&(decide (((LL.getD k []).length:Int)≤(8:Int))))=false) (pI ((LL.getD k []).length:Int))),Uc 11 35 _,Uc 12 36 _,Uc 13 37 _,Uc 14 38 _,Uc 15 39 (Z2 ((((decide (((LL.getD k []).length:Int)>(4:Int)))&&(decide (((LL.getD k []).length:Int)≤(8:Int))))||(decide (((LL.getD k []).length:Int)>(10:Int))))=false) (pB (W6 (LL.getD k [])))),Uc 16 40 _,Uc 17 41 _] (.kkkk .z) ⟨mv,Qm (.tmp 4 rfl rfl) (Va).under (.here 5 rfl),bl,mv,gd fun h=>gmv h,Jg 7 rfl rfl (fun hc=>Qm (.sel (.tmp 8 rfl rfl) hc) (Va).under (.sel hc 9 rfl)) (by kernel_rfl) (fun _=>.none (by kernel_rfl)) (fun hc=>.sel_no hc 9 rfl),gd fun h=>gbl h,pk,mv,gd fun h=>gmv h,Jg 12 rfl rfl (fun hc=>Qm (.sel (.tmp 13 rfl rfl) hc) (Va).under (.sel hc 14 rfl)) (by kernel_rfl) (fun _=>.none (by kernel_rfl)) (fun hc=>.sel_no hc 14 rfl),gd fun h=>gbl h,pk,mv,gd fun h=>gmv h,Jg 17 rfl rfl (fun hc=>Qhn (fun _ _=>by kernel_rfl) (.sel (.tmp 18 rfl rfl) hc) (.sel hc 19 rfl) (c_light (hLL2 k (by omega)))) (by kernel_rfl) (fun _=>.none (by kernel_rfl)) (fun hc=>.sel_no hc 19 rfl),gd fun h=>gnt h,pk,trivial⟩ (.kkkd (.dddd (.kkkd (.dkkk (.ddkk (.kk .z)))))) fun a w hI=>?_
   refine Xa hI 12 rfl (fun ht=>?_) (fun ht=>?_)
   ·have t4:=ht
    refine Qj hI 1 [Uc 0 2 _] (.k8 (.kkkk (.k .z))) ⟨mv,trivial⟩ (.k8 (.kkkk (.dk .z))) fun a w hI=>?_
    refine wp_ret ?_
    refine Z5 ?_
    refine Xf ?_
    refine Xf ?_
    refine Z5 ?_
    refine Xf ?_
    exact Zu hI rfl (.imp (.tmp 12 rfl) (Yt (small_no2 (i:=k) (by omega) (by unfold Qe8 sideB; rw[t4]; rfl))))
   ·have t5:=ht
    refine wp_skip ?_
    refine Xo ?_
    refine Qb ?_
    refine srT0 hI 2 [Uc 0 42 _,Uc 1 20 _] (.kk (.t 1 (.k8 (.kk .z)))) ⟨bl,mv,trivial⟩ (.kkdk (.k8 (.ddk .z))) fun a w hI=>?_
    refine Qb ?_
    exact⟨k+1,⟨⟨by omega,fun q hq=>by rcases Nat.lt_or_ge q k with h|h; exact hp.2 q h; rw[show q=k by omega]; exact(by unfold Qe8 sideB; rw[t5]; rfl)⟩,(hI.conv trivial ⟨⟨rfl,rfl,0,_,rfl,fun _ _ h=>h⟩,⟨rfl,rfl,1,_,rfl,fun _ _ h=>h⟩,⟨rfl,rfl,11,_,rfl,(Qw (by omega))⟩,trivial⟩)⟩,(show LL.length-(k+1)<LL.length-k by omega)⟩
  ·have t6:=of_decide_eq_false ht
   refine wp_exit ?_
   refine Ql ?_
   refine Ql ?_
   refine Q7 ?_
   refine Qb ?_
   refine Qj hI 1 [Uc 0 2 _] (.kkkk .z) ⟨mv,trivial⟩ (.dddd (.k .z)) fun a w hI=>?_
   refine wp_ret ?_
   exact Zu hI rfl (.imp (.tmp 0 rfl) (Yt (small_yes t2 (fun i hi=>hp.2 i (by omega)))))
theorem c_list {L:List FD} (hL:L.length≤1000000∧∀k,k<L.length→FdOk (L.getD k Yr)):∀(M:Nat→Nat→Prop) (w:World) (v0:Value),Mid M w→Box M (fun w=>(Qc 2 true L.length (fun i=>Y6 (L.getD i Yr).1 (L.getD i Yr).2.1)) w v0) w→Calls Tryz.prog 13 #[v0] w (RetB M (Xr (Qe (Z9 L)) (Qk (Z9 L))) w):=by
 intro M w0 v0 hM hv0
 refine Q8 (N:=34) Tryz.func13 rfl rfl rfl hM (show EntsA M w0 [v0] [⟨none,none,0,Qc 2 true L.length (fun i=>Y6 (L.getD i Yr).1 (L.getD i Yr).2.1)⟩]from⟨⟨rfl,_,rfl,hv0⟩,trivial⟩) fun a hI=>?_
 refine Qj hI 2 [Uc 0 2 _,Uc 1 3 _] (.k .z) ⟨mv,mv,trivial⟩ (.kkk .z) fun a w hI=>?_
 refine sqD hI [0,1,3,0,8,24,7,127] [⟨10,10,some 2,some 6,(.row L.length),38,(L.length*3),true,pv (Yb 3 true L.length (fun _=>Qv 0)),[]⟩,⟨13,13,some 5,some 7,(.row L.length),42,(L.length*3),true,pv (Yb 3 true L.length (fun _=>Q4)),[]⟩,⟨4,4,some 6,none,(.row L.length),38,(L.length*3),true,pv (Yb 3 true L.length (fun _=>Qv 0)),[]⟩,⟨5,5,some 7,none,(.row L.length),42,(L.length*3),true,pv (Yb 3 true L.length (fun _=>Q4)),[]⟩] [] [Uc 0 8 _,Uc 1 9 (pI (L.length:Int)),Uc 3 11 _,Uc 4 12 (pI (L.length:Int))] .z (.kkk .z) ⟨mv,Qm (.tmp 3 rfl rfl) (Va).under (.here 4 rfl),Jp (n:=L.length) (p0:=Qv 0) (zv:=.agg #[.bool false,.slice none 0 0,.slice none 0 0]) (z:=[.bool false,.slice none 0 0,.slice none 0 0]) 0 rfl rfl (by kernel_rfl) (by kernel_rfl) (by kernel_rfl) rfl rfl rfl rfl rfl (.tmp 4 rfl rfl) (.tmp 4 rfl rfl) (Xb).under (by kernel_rfl) rfl rfl (by omega) (by simp[Yw]) (fun w=>Jd w) (by omega),mv,Qm (.tmp 5 rfl rfl) (Va).under (.here 6 rfl),Jp (n:=L.length) (p0:=Q4) (zv:=.agg #[.bool false,.slice none 0 0,.slice none 0 0]) (z:=[.bool false,.slice none 0 0,.slice none 0 0]) 1 rfl rfl (by kernel_rfl) (by kernel_rfl) (by kernel_rfl) rfl rfl rfl rfl rfl (.tmp 6 rfl rfl) (.tmp 6 rfl rfl) (Xz).under (by kernel_rfl) rfl rfl (by omega) (by simp[Yw]) (fun _=>trivial) (by omega),K9 0 rfl rfl rfl rfl rfl (by kernel_rfl) rfl 2 rfl rfl rfl rfl rfl rfl rfl rfl (by kernel_rfl) (by kernel_rfl),K9 1 rfl rfl rfl rfl rfl (by kernel_rfl) rfl 3 rfl rfl rfl rfl rfl rfl rfl rfl (by kernel_rfl) (by kernel_rfl),trivial⟩ (.d (.d (.k (.k .z)))) (.kkkd (.ddd .z)) fun a w hI=>?_
 refine wp_seq ?_
 refine Q3 hI 3 [] [] [Uc 0 14 _,Uc 1 15 (pI (L.length:Int)),Uc 2 16 _] (.k (.k .z)) (.kkk .z) ⟨mv,Qm (.tmp 3 rfl rfl) (Va).under (.here 4 rfl),mv,trivial⟩ (.k (.k .z)) (.dkkk (.kk .z)) fun a w hI=>?_
 refine wp_block ?_
 refine Q9 (fun(k:Nat) a w=>(k≤L.length)∧Inv ⟨34,w0,M,fun _=>False⟩ [⟨4,4,none,none,(.row L.length),38,(L.length*3),true,pv (Yb 3 true L.length (Yl k (fun i=>Qv ((Z9 L).getD i 0)) (Qv 0))),[]⟩,⟨5,5,none,none,(.row L.length),42,(L.length*3),true,pv (Yb 3 true L.length (Yl k (fun i=>Qr ((Z9 L).getD i 0)) (Q4))),[]⟩] [] [⟨none,none,2,Qi ((Value.slice none 0 0))⟩,⟨none,none,3,Qi ((Value.slice none 0 0))⟩,⟨none,none,14,Qc 2 true L.length (fun i=>Y6 (L.getD i Yr).1 (L.getD i Yr).2.1)⟩,⟨none,none,15,pI (L.length:Int)⟩,⟨none,none,16,pI (k:Int)⟩] Qf a w) (fun(k:Nat)=>L.length-k) (0) ⟨Nat.zero_le _,(hI.conv ⟨⟨0,_,_,rfl,⟨rfl,rfl,rfl⟩,rfl,fun _=>(Zh Vn)⟩,⟨1,_,_,rfl,⟨rfl,rfl,rfl⟩,rfl,fun _=>(Zh Vn)⟩,trivial⟩ ⟨⟨rfl,rfl,0,_,rfl,fun _ _ h=>h⟩,⟨rfl,rfl,1,_,rfl,fun _ _ h=>h⟩,⟨rfl,rfl,2,_,rfl,fun _ _ h=>h⟩,⟨rfl,rfl,3,_,rfl,fun _ _ h=>h⟩,⟨rfl,rfl,4,_,rfl,(Qw (by omega))⟩,trivial⟩)⟩ ?_
 intro k a w hIk
 obtain⟨hp,hI⟩:=hIk
 refine Q3 hI 1 [] [] [Uc 0 17 _] (.k (.k .z)) (.kkkk (.k .z)) ⟨bl,trivial⟩ (.k (.k .z)) (.kkkk (.kk .z)) fun a w hI=>?_
 refine wp_seq ?_
 refine Xa hI 5 rfl (fun ht=>?_) (fun ht=>?_)
 ·have t1:=of_decide_eq_true ht
  refine wp_skip ?_
  refine Qb ?_
  refine wp_seq ?_
  refine wp_block ?_
  refine Q3 hI 6 [⟨7,7,some 3,none,.ptr,82,2,true,pv (Y6 0 0),[(5,pv (Y6 ((L.getD k Yr).1) ((L.getD k Yr).2.1)))]⟩] [] [Uc 0 18 _,Uc 1 19 _,Uc 2 20 (Y6 ((L.getD k Yr).1) ((L.getD k Yr).2.1)),Uc 4 6 _] (.k (.k .z)) (.kkkk (.kk .z)) ⟨mv,Ky Va,Q5 (.tmp 7 rfl rfl) Qee (Qfl _ _) (.here 8 rfl),Jv 2 rfl rfl (by kernel_rfl) (by kernel_rfl) rfl rfl rfl zv_Frac rfl rfl (by simp[Yw]) rfl (fun w=>pFrac_of 0 0 w),mv,Za 2 rfl rfl rfl rfl 0 rfl (by kernel_rfl) (by kernel_rfl) Qee (.tmp 8 rfl rfl) (Qfl _ _),trivial⟩ (.k (.k (.s .o .z))) (.kkkk (.kddd (.dk .z))) fun a w hI=>?_
  obtain⟨g1,hI⟩:=hI.openRow 0 rfl rfl rfl
  refine Q3 hI 6 [] [] [Uc 0 21 _,Uc 1 22 _,Uc 2 23 (Y6 ((L.getD k Yr).1) ((L.getD k Yr).2.1)),Uc 3 24 _,Uc 4 25 (Qi (.pointer (some ⟨g1,0+((k:Int)).toNat*3,none⟩)))] (.u none [(5,pv (Yb 3 true L.length (Zx (Yl k (fun i=>Qv ((Z9 L).getD i 0)) (Qv 0)) k (Qv ((Z9 L).getD k 0)))))] (.k (.k .z))) (.kkkk (.kkk .z)) ⟨mv,mv,Xy 2 rfl rfl rfl rfl (by kernel_rfl) Qee rfl (.here 9 rfl),ce1 (Zf _) (c_of (lofs_get (L:=L) (i:=k) (by omega)) (hL.2 k (by omega))) (Ya rfl),Qs (.tmp 7 rfl rfl) (.tmp 8 rfl rfl) Xb (by omega) (by omega) (by kernel_rfl) (.here 11 rfl),Ji (sz:=3) (n:=L.length) (q:=k) (ag:=true) (f:=Yl k (fun i=>Qv ((Z9 L).getD i 0)) (Qv 0)) (p:=Qv ((Z9 L).getD k 0)) 0 rfl rfl rfl (by kernel_rfl) rfl rfl 0 rfl (by kernel_rfl) (by kernel_rfl) (.tmp 0 rfl rfl) (.tmp 11 rfl rfl) (show 0+((k:Int)).toNat*3=k*3 by omega) (by omega) Xx rfl (.tmp 10 rfl rfl) (Ym _),trivial⟩ (.s .o (.k (.k .z))) (.kkkk (.kkkd (.dddd .z))) fun a w hI=>?_
  obtain⟨g2,hI⟩:=hI.openRow 1 rfl rfl rfl
  refine Z3 hI 6 [] [] [Uc 0 26 _,Uc 1 27 _,Uc 2 28 (Y6 ((L.getD k Yr).1) ((L.getD k Yr).2.1)),Uc 3 29 _,Uc 4 30 (Qi (.pointer (some ⟨g2,0+((k:Int)).toNat*3,none⟩)))] (.k (.u none [(5,pv (Yb 3 true L.length (Zx (Yl k (fun i=>Qr ((Z9 L).getD i 0)) (Q4)) k (Qr ((Z9 L).getD k 0)))))] (.k .z))) (.k8 .z) ⟨mv,mv,Xy 2 rfl rfl rfl rfl (by kernel_rfl) Qee rfl (.here 10 rfl),ce1 (X3 _) (cn_ofk (lofs_get (L:=L) (i:=k) (by omega)) (hL.2 k (by omega)).1 (hL.2 k (by omega)).2.1 (hL.2 k (by omega)).2.2) (Ya rfl),Qs (.tmp 8 rfl rfl) (.tmp 9 rfl rfl) Xz (by omega) (by omega) (by kernel_rfl) (.here 12 rfl),Ji (sz:=3) (n:=L.length) (q:=k) (ag:=true) (f:=Yl k (fun i=>Qr ((Z9 L).getD i 0)) (Q4)) (p:=Qr ((Z9 L).getD k 0)) 1 rfl rfl rfl (by kernel_rfl) rfl rfl 0 rfl (by kernel_rfl) (by kernel_rfl) (.tmp 0 rfl rfl) (.tmp 12 rfl rfl) (show 0+((k:Int)).toNat*3=k*3 by omega) (by omega) Yc rfl (.tmp 11 rfl rfl) (Xt _),trivial⟩ (.k (.s .o (.k .z))) (.kkkk (.kkkd (.dddd (.d .z)))) fun a w hI=>?_
  refine Xo ?_
  refine Qb ?_
  refine Z3 hI 2 [] [] [Uc 0 31 _,Uc 1 16 _] (.k (.k (.k .z))) (.kkkk (.kk (.t 1 .z))) ⟨bl,mv,trivial⟩ (.k (.k (.k .z))) (.kkkk (.kkdd (.k .z))) fun a w hI=>?_
  refine Qb ?_
  exact⟨k+1,⟨(show k+1≤L.length by omega),(hI.conv ⟨⟨0,_,_,rfl,⟨rfl,rfl,rfl⟩,rfl,fun _=>(Zh (Wd fun _ _ q=>q))⟩,⟨1,_,_,rfl,⟨rfl,rfl,rfl⟩,rfl,fun _=>(Zh (Wd fun _ _ q=>q))⟩,trivial⟩ ⟨⟨rfl,rfl,2,_,rfl,fun _ _ h=>h⟩,⟨rfl,rfl,3,_,rfl,fun _ _ h=>h⟩,⟨rfl,rfl,4,_,rfl,fun _ _ h=>h⟩,⟨rfl,rfl,5,_,rfl,fun _ _ h=>h⟩,⟨rfl,rfl,6,_,rfl,(Qw (by omega))⟩,trivial⟩)⟩,(show L.length-(k+1)<L.length-k by omega)⟩
 ·have t2:=of_decide_eq_false ht
  refine wp_exit ?_
  refine Ql ?_
  refine Ql ?_
  refine Q7 ?_
  refine Qb ?_
  obtain⟨g3,hI⟩:=hI.openRow 0 rfl rfl rfl
  replace hI:=hI.restRow (n0:=0) (k0:=0) (f':=(fun i=>Qv ((Z9 L).getD i 0))) rfl (by kernel_rfl) (by omega) (fun i hi w v q=>by rw[show k=L.length by omega]at q; exact Qbm i hi w v q)
  obtain⟨g4,hI⟩:=hI.openRow 0 rfl rfl rfl
  replace hI:=hI.restRow (n0:=0) (k0:=0) (f':=(fun i=>Qr ((Z9 L).getD i 0))) rfl (by kernel_rfl) (by omega) (fun i hi w v q=>by rw[show k=L.length by omega]at q; exact Qbm i hi w v q)
  refine Qj hI 4 [Uc 0 32 _,Uc 1 33 _,Uc 2 2 _,Uc 3 3 _] (.kk (.t 2 (.t 3 (.kkkk .z)))) ⟨mv,mv,mv,mv,trivial⟩ (.d8 (.ddkk .z)) fun a w hI=>?_
  refine wp_ret ?_
  exact K3 hI rfl (.imp (.tmp 0 rfl) (fun w v h=>by rw[pRats_len Qet]; exact h)) (.imp (.tmp 1 rfl) (fun w v h=>by rw[Qap Qet]; exact h))
theorem c_matrix {LL:List (List FD)} (hLL:LL.length≤1000000∧∀i,i<LL.length→(LL.getD i []).length≤1000000∧∀k,k<(LL.getD i []).length→FdOk ((LL.getD i []).getD k Yr)):∀(M:Nat→Nat→Prop) (w:World) (v0:Value),Mid M w→Box M (fun w=>(Qc 1 false LL.length (fun i=>Qc 2 true (LL.getD i []).length (fun k=>Y6 ((LL.getD i []).getD k Yr).1 ((LL.getD i []).getD k Yr).2.1))) w v0) w→Calls Tryz.prog 8 #[v0] w (RetB M (Xr (Qc 1 false LL.length (fun i=>Qe ((Ja LL).getD i []))) (Qc 1 false LL.length (fun i=>Qk ((Ja LL).getD i [])))) w):=by
 intro M w0 v0 hM hv0
 refine Q8 (N:=35) Tryz.func8 rfl rfl rfl hM (show EntsA M w0 [v0] [⟨none,none,0,Qc 1 false LL.length (fun i=>Qc 2 true (LL.getD i []).length (fun k=>Y6 ((LL.getD i []).getD k Yr).1 ((LL.getD i []).getD k Yr).2.1))⟩]from⟨⟨rfl,_,rfl,hv0⟩,trivial⟩) fun a hI=>?_
 refine Qj hI 2 [Uc 0 2 _,Uc 1 3 _] (.k .z) ⟨mv,mv,trivial⟩ (.kkk .z) fun a w hI=>?_
 refine sqD hI [0,1,3,0,8,24,7,127] [⟨10,10,some 2,some 6,(.row LL.length),39,(LL.length*1),true,pv (Yb 1 false LL.length (fun _=>Qi (.slice none 0 0))),[]⟩,⟨13,13,some 5,some 7,(.row LL.length),34,(LL.length*1),true,pv (Yb 1 false LL.length (fun _=>Qi (.slice none 0 0))),[]⟩,⟨4,4,some 6,none,(.row LL.length),39,(LL.length*1),true,pv (Yb 1 false LL.length (fun _=>Qi (.slice none 0 0))),[]⟩,⟨5,5,some 7,none,(.row LL.length),34,(LL.length*1),true,pv (Yb 1 false LL.length (fun _=>Qi (.slice none 0 0))),[]⟩] [] [Uc 0 8 _,Uc 1 9 (pI (LL.length:Int)),Uc 3 11 _,Uc 4 12 (pI (LL.length:Int))] .z (.kkk .z) ⟨mv,Qm (.tmp 3 rfl rfl) (Wb).under (.here 4 rfl),Jp (n:=LL.length) (p0:=Qi (.slice none 0 0)) (zv:=.slice none 0 0) (z:=[.slice none 0 0]) 0 rfl rfl (by kernel_rfl) (by kernel_rfl) (by kernel_rfl) rfl rfl rfl rfl rfl (.tmp 4 rfl rfl) (.tmp 4 rfl rfl) (Qt).under (by kernel_rfl) rfl rfl (by omega) (by simp[Yw]) (fun _=>rfl) (by omega),mv,Qm (.tmp 5 rfl rfl) (Wb).under (.here 6 rfl),Jp (n:=LL.length) (p0:=Qi (.slice none 0 0)) (zv:=.slice none 0 0) (z:=[.slice none 0 0]) 1 rfl rfl (by kernel_rfl) (by kernel_rfl) (by kernel_rfl) rfl rfl rfl rfl rfl (.tmp 6 rfl rfl) (.tmp 6 rfl rfl) (Qy).under (by kernel_rfl) rfl rfl (by omega) (by simp[Yw]) (fun _=>rfl) (by omega),K9 0 rfl rfl rfl rfl rfl (by kernel_rfl) rfl 2 rfl rfl rfl rfl rfl rfl rfl rfl (by kernel_rfl) (by kernel_rfl),K9 1 rfl rfl rfl rfl rfl (by kernel_rfl) rfl 3 rfl rfl rfl rfl rfl rfl rfl rfl (by kernel_rfl) (by kernel_rfl),trivial⟩ (.d (.d (.k (.k .z)))) (.kkkd (.ddd .z)) fun a w hI=>?_
 refine wp_seq ?_
 refine Q3 hI 3 [] [] [Uc 0 14 _,Uc 1 15 (pI (LL.length:Int)),Uc 2 16 _] (.k (.k .z)) (.kkk .z) ⟨mv,Qm (.tmp 3 rfl rfl) (Wb).under (.here 4 rfl),mv,trivial⟩ (.k (.k .z)) (.dkkk (.kk .z)) fun a w hI=>?_
 refine wp_block ?_
 refine Q9 (fun(k:Nat) a w=>(k≤LL.length)∧Inv ⟨35,w0,M,fun _=>False⟩ [⟨4,4,none,none,(.row LL.length),39,(LL.length*1),true,pv (Yb 1 false LL.length (Yl k (fun i=>Qe ((Ja LL).getD i [])) (Qi (.slice none 0 0)))),[]⟩,⟨5,5,none,none,(.row LL.length),34,(LL.length*1),true,pv (Yb 1 false LL.length (Yl k (fun i=>Qk ((Ja LL).getD i [])) (Qi (.slice none 0 0)))),[]⟩] [] [⟨none,none,2,Qi ((Value.slice none 0 0))⟩,⟨none,none,3,Qi ((Value.slice none 0 0))⟩,⟨none,none,14,Qc 1 false LL.length (fun i=>Qc 2 true (LL.getD i []).length (fun k=>Y6 ((LL.getD i []).getD k Yr).1 ((LL.getD i []).getD k Yr).2.1))⟩,⟨none,none,15,pI (LL.length:Int)⟩,⟨none,none,16,pI (k:Int)⟩] Qf a w) (fun(k:Nat)=>LL.length-k) (0) ⟨Nat.zero_le _,(hI.conv ⟨⟨0,_,_,rfl,⟨rfl,rfl,rfl⟩,rfl,fun _=>(Zh Vn)⟩,⟨1,_,_,rfl,⟨rfl,rfl,rfl⟩,rfl,fun _=>(Zh Vn)⟩,trivial⟩ ⟨⟨rfl,rfl,0,_,rfl,fun _ _ h=>h⟩,⟨rfl,rfl,1,_,rfl,fun _ _ h=>h⟩,⟨rfl,rfl,2,_,rfl,fun _ _ h=>h⟩,⟨rfl,rfl,3,_,rfl,fun _ _ h=>h⟩,⟨rfl,rfl,4,_,rfl,(Qw (by omega))⟩,trivial⟩)⟩ ?_
 intro k a w hIk
 obtain⟨hp,hI⟩:=hIk
 refine Q3 hI 1 [] [] [Uc 0 17 _] (.k (.k .z)) (.kkkk (.k .z)) ⟨bl,trivial⟩ (.k (.k .z)) (.kkkk (.kk .z)) fun a w hI=>?_
 refine wp_seq ?_
 refine Xa hI 5 rfl (fun ht=>?_) (fun ht=>?_)
 ·have t1:=of_decide_eq_true ht
  refine wp_skip ?_
  refine Qb ?_
  refine wp_seq ?_
  refine wp_block ?_
  refine Q3 hI 5 [] [] [Uc 0 18 _,Uc 1 19 _,Uc 2 20 (Qc 2 true (LL.getD k []).length (fun i=>Y6 ((LL.getD k []).getD i Yr).1 ((LL.getD k []).getD i Yr).2.1)),Uc 3 6 _,Uc 4 7 _] (.k (.k .z)) (.kkkk (.kk .z)) ⟨mv,Ky Wb,Q5 (.tmp 7 rfl rfl) ty_Fracs (V3) (.here 8 rfl),mv,mv,trivial⟩ (.k (.k .z)) (.kkkk (.kddd (.dkk .z))) fun a w hI=>?_
  obtain⟨g1,hI⟩:=hI.openRow 0 rfl rfl rfl
  obtain⟨g2,hI⟩:=hI.openRow 1 rfl rfl rfl
  refine Z3 hI 13 [] [] [Uc 0 22 _,Uc 1 23 _,Uc 2 24 _,Uc 3 25 _,Uc 4 26 _,Uc 5 27 _,Uc 6 21 _,Uc 7 28 _,Uc 8 29 _,Uc 9 30 (Qi (.pointer (some ⟨g1,0+((k:Int)).toNat*1,none⟩))),Uc 11 31 (Qi (.pointer (some ⟨g2,0+((k:Int)).toNat*1,none⟩)))] (.u none [(10,pv (Yb 1 false LL.length (Zx (Yl k (fun i=>Qe ((Ja LL).getD i [])) (Qi (.slice none 0 0))) k (Qe (Z9 (LL.getD k []))))))] (.u none [(12,pv (Yb 1 false LL.length (Zx (Yl k (fun i=>Qk ((Ja LL).getD i [])) (Qi (.slice none 0 0))) k (Qk (Z9 (LL.getD k []))))))] .z)) (.k8 (.k .z)) ⟨mv,mv,mv,mv,mv,Z0 (c_list (hLL.2 k (by omega))) (Ya rfl),mv,ext,ext,Qs (.tmp 9 rfl rfl) (.tmp 10 rfl rfl) Qt (by omega) (by omega) (by kernel_rfl) (.here 18 rfl),Ji (sz:=1) (n:=LL.length) (q:=k) (ag:=false) (f:=Yl k (fun i=>Qe ((Ja LL).getD i [])) (Qi (.slice none 0 0))) (p:=Qe (Z9 (LL.getD k []))) 0 rfl rfl rfl (by kernel_rfl) rfl rfl 0 rfl (by kernel_rfl) (by kernel_rfl) (.tmp 1 rfl rfl) (.tmp 18 rfl rfl) (show 0+((k:Int)).toNat*1=k*1 by omega) (by omega) Xn rfl (.tmp 16 rfl rfl) (Yj _),Qs (.tmp 11 rfl rfl) (.tmp 12 rfl rfl) Qy (by omega) (by omega) (by kernel_rfl) (.here 19 rfl),Ji (sz:=1) (n:=LL.length) (q:=k) (ag:=false) (f:=Yl k (fun i=>Qk ((Ja LL).getD i [])) (Qi (.slice none 0 0))) (p:=Qk (Z9 (LL.getD k []))) 1 rfl rfl rfl (by kernel_rfl) rfl rfl 0 rfl (by kernel_rfl) (by kernel_rfl) (.tmp 0 rfl rfl) (.tmp 19 rfl rfl) (show 0+((k:Int)).toNat*1=k*1 by omega) (by omega) Jt rfl (.tmp 17 rfl rfl) (Zb _),trivial⟩ (.s .o (.s .o .z)) (.kkkk (.kkkd (.d8 (.dddd .z)))) fun a w hI=>?_
  refine Xo ?_
  refine Qb ?_
  refine Z3 hI 2 [] [] [Uc 0 32 _,Uc 1 16 _] (.k (.k .z)) (.kkkk (.kk (.t 1 .z))) ⟨bl,mv,trivial⟩ (.k (.k .z)) (.kkkk (.kkdd (.k .z))) fun a w hI=>?_
  refine Qb ?_
  exact⟨k+1,⟨(show k+1≤LL.length by omega),(hI.conv ⟨⟨0,_,_,rfl,⟨rfl,rfl,rfl⟩,rfl,fun _=>(Zh (Wd fun w v q=>by rw[Qew (by omega)]; exact q))⟩,⟨1,_,_,rfl,⟨rfl,rfl,rfl⟩,rfl,fun _=>(Zh (Wd fun w v q=>by rw[Qew (by omega)]; exact q))⟩,trivial⟩ ⟨⟨rfl,rfl,2,_,rfl,fun _ _ h=>h⟩,⟨rfl,rfl,3,_,rfl,fun _ _ h=>h⟩,⟨rfl,rfl,4,_,rfl,fun _ _ h=>h⟩,⟨rfl,rfl,5,_,rfl,fun _ _ h=>h⟩,⟨rfl,rfl,6,_,rfl,(Qw (by omega))⟩,trivial⟩)⟩,(show LL.length-(k+1)<LL.length-k by omega)⟩
 ·have t2:=of_decide_eq_false ht
  refine wp_exit ?_
  refine Ql ?_
  refine Ql ?_
  refine Q7 ?_
  refine Qb ?_
  obtain⟨g3,hI⟩:=hI.openRow 0 rfl rfl rfl
  replace hI:=hI.restRow (n0:=0) (k0:=0) (f':=(fun i=>Qe ((Ja LL).getD i []))) rfl (by kernel_rfl) (by omega) (fun i hi w v q=>by rw[show k=LL.length by omega]at q; exact Qbm i hi w v q)
  obtain⟨g4,hI⟩:=hI.openRow 0 rfl rfl rfl
  replace hI:=hI.restRow (n0:=0) (k0:=0) (f':=(fun i=>Qk ((Ja LL).getD i []))) rfl (by kernel_rfl) (by omega) (fun i hi w v q=>by rw[show k=LL.length by omega]at q; exact Qbm i hi w v q)
  refine Qj hI 4 [Uc 0 33 _,Uc 1 34 _,Uc 2 2 _,Uc 3 3 _] (.kk (.t 2 (.t 3 (.kkkk .z)))) ⟨mv,mv,mv,mv,trivial⟩ (.d8 (.ddkk .z)) fun a w hI=>?_
  refine wp_ret ?_
  exact K3 hI rfl (.tmp 0 rfl) (.tmp 1 rfl)
theorem c_Are {A:List Rat} {j:Nat} (hA:A.length≤1000000) (hb:∀k,BdR j (A.getD k 0)) (hj:j≤100000000):∀(M:Nat→Nat→Prop) (w:World) (v0 v1:Value),Mid M w→Box M (fun w=>(Qe A) w v0) w→Box M (fun w=>(Qk A) w v1) w→Calls Tryz.prog 30 #[v0,v1] w (RetB M (pB true) w):=by
 intro M w0 v0 v1 hM hv0 hv1
 refine Q8 (N:=27) Tryz.func30 rfl rfl rfl hM (show EntsA M w0 [v0,v1] [⟨none,none,0,Qe A⟩,⟨none,none,1,Qk A⟩]from⟨⟨rfl,_,rfl,hv0⟩,⟨rfl,_,rfl,hv1⟩,trivial⟩) fun a hI=>?_
 refine Qj hI 1 [Uc 0 4 _] (.kk .z) ⟨mv,trivial⟩ (.kkk .z) fun a w hI=>?_
 refine wp_seq ?_
 refine Qj hI 5 [Uc 0 6 _,Uc 1 7 (pI (A.length:Int)),Uc 2 8 _,Uc 3 9 (pI (A.length:Int)),Uc 4 10 (pB false)] (.kkk .z) ⟨mv,Qm (.tmp 3 rfl rfl) (Xb).under (.here 4 rfl),mv,Qm (.tmp 5 rfl rfl) (Xz).under (.here 6 rfl),Q6 (v:=.bool (((A.length:Int) != (A.length:Int)))) (.tmp 4 rfl rfl) (.tmp 6 rfl rfl) (fun _=>rfl) (.at_ 7 _ _ rfl (Yt (bne_self_eq_false _))),trivial⟩ (.kkkd (.dddk .z)) fun a w hI=>?_
 refine Xv hI 3 rfl ?_
 refine wp_skip ?_
 refine Qb ?_
 refine wp_seq ?_
 refine Qj hI 3 [Uc 0 11 _,Uc 1 12 (pI (A.length:Int)),Uc 2 13 _] (.kkkk .z) ⟨mv,Qm (.tmp 4 rfl rfl) (Xb).under (.here 5 rfl),mv,trivial⟩ (.kkkd (.dkk .z)) fun a w hI=>?_
 refine wp_block ?_
 refine Q9 (fun(k:Nat) a w=>(k≤A.length)∧Inv ⟨27,w0,M,fun _=>False⟩ [] [] [⟨none,none,0,Qe A⟩,⟨none,none,1,Qk A⟩,⟨none,none,12,pI (A.length:Int)⟩,⟨none,none,13,pI (k:Int)⟩] Qf a w) (fun(k:Nat)=>A.length-k) (0) ⟨Nat.zero_le _,(hI.conv trivial ⟨⟨rfl,rfl,0,_,rfl,fun _ _ h=>h⟩,⟨rfl,rfl,1,_,rfl,fun _ _ h=>h⟩,⟨rfl,rfl,3,_,rfl,fun _ _ h=>h⟩,⟨rfl,rfl,4,_,rfl,(Qw (by omega))⟩,trivial⟩)⟩ ?_
 intro k a w hIk
 obtain⟨hp,hI⟩:=hIk
 refine Qj hI 1 [Uc 0 14 _] (.kkkk .z) ⟨bl,trivial⟩ (.kkkk (.k .z)) fun a w hI=>?_
 refine wp_seq ?_
 refine Xa hI 4 rfl (fun ht=>?_) (fun ht=>?_)
 ·have t1:=of_decide_eq_true ht
  refine wp_skip ?_
  refine Qb ?_
  refine wp_seq ?_
  refine wp_block ?_
  refine Qj hI 2 [Uc 0 15 _,Uc 1 5 _] (.kkkk (.k .z)) ⟨mv,mv,trivial⟩ (.kkkk (.ddk .z)) fun a w hI=>?_
  refine sqD0 hI [0,0,3,7,0,0,48,112,255,511] [Uc 0 16 _,Uc 1 17 _,Uc 2 18 _,Uc 3 19 (Qv (A.getD k 0)),Uc 4 20 _,Uc 5 21 _,Uc 6 22 _,Uc 7 23 (Qr (A.getD k 0)),Uc 8 24 _,Uc 9 25 _] (.kkkk (.k .z)) ⟨mv,mv,Ky Xb,Q5 (.tmp 7 rfl rfl) Xx (Ym _) (.here 8 rfl),mv,mv,Ky Xz,Q5 (.tmp 11 rfl rfl) Yc (Xt _) (.here 12 rfl),ce2 (Y2 _) (c_is (hb k) hj rfl),nt,trivial⟩ (.kkkk (.d8 (.ddk .z))) fun a w hI=>?_
  refine Xv hI 4 rfl ?_
  refine wp_skip ?_
  refine Xo ?_
  refine Qb ?_
  refine srT0 hI 2 [Uc 0 26 _,Uc 1 13 _] (.kkk (.t 1 (.k .z))) ⟨bl,mv,trivial⟩ (.kkkd (.ddk .z)) fun a w hI=>?_
  refine Qb ?_
  exact⟨k+1,⟨(show k+1≤A.length by omega),(hI.conv trivial ⟨⟨rfl,rfl,0,_,rfl,fun _ _ h=>h⟩,⟨rfl,rfl,1,_,rfl,fun _ _ h=>h⟩,⟨rfl,rfl,2,_,rfl,fun _ _ h=>h⟩,⟨rfl,rfl,3,_,rfl,(Qw (by omega))⟩,trivial⟩)⟩,(show A.length-(k+1)<A.length-k by omega)⟩
 ·have t2:=of_decide_eq_false ht
  refine wp_exit ?_
  refine Ql ?_
  refine Ql ?_
  refine Q7 ?_
  refine Qb ?_
  refine Qj hI 1 [Uc 0 4 _] (.kkkk (.k .z)) ⟨mv,trivial⟩ (.dddd (.dk .z)) fun a w hI=>?_
  refine wp_ret ?_
  exact Zu hI rfl (.tmp 0 rfl)
theorem c_IsMatrix {A:List (List Rat)} {j:Nat} (hA:A.length≤1000000∧∀i,i<A.length→(A.getD i []).length≤1000000) (hb:∀i k,BdR j ((A.getD i []).getD k 0)) (hj:j≤100000000):∀(M:Nat→Nat→Prop) (w:World) (v0 v1:Value),Mid M w→Box M (fun w=>(Qc 1 false A.length (fun i=>Qe (A.getD i []))) w v0) w→Box M (fun w=>(Qc 1 false A.length (fun i=>Qk (A.getD i []))) w v1) w→Calls Tryz.prog 18 #[v0,v1] w (RetB M (pB true) w):=by
 intro M w0 v0 v1 hM hv0 hv1
 refine Q8 (N:=27) Tryz.func18 rfl rfl rfl hM (show EntsA M w0 [v0,v1] [⟨none,none,0,Qc 1 false A.length (fun i=>Qe (A.getD i []))⟩,⟨none,none,1,Qc 1 false A.length (fun i=>Qk (A.getD i []))⟩]from⟨⟨rfl,_,rfl,hv0⟩,⟨rfl,_,rfl,hv1⟩,trivial⟩) fun a hI=>?_
 refine Qj hI 1 [Uc 0 4 _] (.kk .z) ⟨mv,trivial⟩ (.kkk .z) fun a w hI=>?_
 refine wp_seq ?_
 refine Qj hI 5 [Uc 0 6 _,Uc 1 7 (pI (A.length:Int)),Uc 2 8 _,Uc 3 9 (pI (A.length:Int)),Uc 4 10 (pB false)] (.kkk .z) ⟨mv,Qm (.tmp 3 rfl rfl) (Qt).under (.here 4 rfl),mv,Qm (.tmp 5 rfl rfl) (Qy).under (.here 6 rfl),Q6 (v:=.bool (((A.length:Int) != (A.length:Int)))) (.tmp 4 rfl rfl) (.tmp 6 rfl rfl) (fun _=>rfl) (.at_ 7 _ _ rfl (Yt (bne_self_eq_false _))),trivial⟩ (.kkkd (.dddk .z)) fun a w hI=>?_
 refine Xv hI 3 rfl ?_
 refine wp_skip ?_
 refine Qb ?_
 refine wp_seq ?_
 refine Qj hI 3 [Uc 0 11 _,Uc 1 12 (pI (A.length:Int)),Uc 2 13 _] (.kkkk .z) ⟨mv,Qm (.tmp 4 rfl rfl) (Qt).under (.here 5 rfl),mv,trivial⟩ (.kkkd (.dkk .z)) fun a w hI=>?_
 refine wp_block ?_
 refine Q9 (fun(k:Nat) a w=>(k≤A.length)∧Inv ⟨27,w0,M,fun _=>False⟩ [] [] [⟨none,none,0,Qc 1 false A.length (fun i=>Qe (A.getD i []))⟩,⟨none,none,1,Qc 1 false A.length (fun i=>Qk (A.getD i []))⟩,⟨none,none,12,pI (A.length:Int)⟩,⟨none,none,13,pI (k:Int)⟩] Qf a w) (fun(k:Nat)=>A.length-k) (0) ⟨Nat.zero_le _,(hI.conv trivial ⟨⟨rfl,rfl,0,_,rfl,fun _ _ h=>h⟩,⟨rfl,rfl,1,_,rfl,fun _ _ h=>h⟩,⟨rfl,rfl,3,_,rfl,fun _ _ h=>h⟩,⟨rfl,rfl,4,_,rfl,(Qw (by omega))⟩,trivial⟩)⟩ ?_
 intro k a w hIk
 obtain⟨hp,hI⟩:=hIk
 refine Qj hI 1 [Uc 0 14 _] (.kkkk .z) ⟨bl,trivial⟩ (.kkkk (.k .z)) fun a w hI=>?_
 refine wp_seq ?_
 refine Xa hI 4 rfl (fun ht=>?_) (fun ht=>?_)
 ·have t1:=of_decide_eq_true ht
  refine wp_skip ?_
  refine Qb ?_
  refine wp_seq ?_
  refine wp_block ?_
  refine Qj hI 2 [Uc 0 15 _,Uc 1 5 _] (.kkkk (.k .z)) ⟨mv,mv,trivial⟩ (.kkkk (.ddk .z)) fun a w hI=>?_
  refine sqD0 hI [0,0,3,7,0,0,48,112,255,511] [Uc 0 16 _,Uc 1 17 _,Uc 2 18 _,Uc 3 19 (Qe (A.getD k [])),Uc 4 20 _,Uc 5 21 _,Uc 6 22 _,Uc 7 23 (Qk (A.getD k [])),Uc 8 24 _,Uc 9 25 _] (.kkkk (.k .z)) ⟨mv,mv,Ky Qt,Q5 (.tmp 7 rfl rfl) Xn ((Yj _)) (.here 8 rfl),mv,mv,Ky Qy,Q5 (.tmp 11 rfl rfl) Jt ((Zb _)) (.here 12 rfl),Ui (c_Are (hA.2 k (by omega)) (hb k) hj) (Ya rfl) (Ya rfl),nt,trivial⟩ (.kkkk (.d8 (.ddk .z))) fun a w hI=>?_
  refine Xv hI 4 rfl ?_
  refine wp_skip ?_
  refine Xo ?_
  refine Qb ?_
  refine srT0 hI 2 [Uc 0 26 _,Uc 1 13 _] (.kkk (.t 1 (.k .z))) ⟨bl,mv,trivial⟩ (.kkkd (.ddk .z)) fun a w hI=>?_
  refine Qb ?_
  exact⟨k+1,⟨(show k+1≤A.length by omega),(hI.conv trivial ⟨⟨rfl,rfl,0,_,rfl,fun _ _ h=>h⟩,⟨rfl,rfl,1,_,rfl,fun _ _ h=>h⟩,⟨rfl,rfl,2,_,rfl,fun _ _ h=>h⟩,⟨rfl,rfl,3,_,rfl,(Qw (by omega))⟩,trivial⟩)⟩,(show A.length-(k+1)<A.length-k by omega)⟩
 ·have t2:=of_decide_eq_false ht
  refine wp_exit ?_
  refine Ql ?_
  refine Ql ?_
  refine Q7 ?_
  refine Qb ?_
  refine Qj hI 1 [Uc 0 4 _] (.kkkk (.k .z)) ⟨mv,trivial⟩ (.dddd (.dk .z)) fun a w hI=>?_
  refine wp_ret ?_
  exact Zu hI rfl (.tmp 0 rfl)
end Wx
