import Derived.Test.YtpiniclogfefjaaGreatJMatrices36
import Derived.Test.YtpiniclogfefjaaGreatJMatrices39
namespace Wx
set_option maxRecDepth 100000
open Go Go.RowKit Go.Proofs
set_option linter.unusedVariables false

theorem c_light {L:List FD} (hL:L.length≤9223372036854775807):∀(M:Nat→Nat→Prop) (w:World) (v0:Value),Mid M w→Box M (fun w=>(Qj 2 true L.length (fun i=>Xl (L.getD i Q0).1 (L.getD i Q0).2.1)) w v0) w→Calls Tryz.prog 12 #[v0] w (RetB M (pB (Zi L)) w):=by
 intro M w0 v0 hM hv0
 refine Q5 (N:=25) Tryz.func12 rfl rfl rfl hM (show EntsA M w0 [v0] [Ez 0 (Qj 2 true L.length (fun i=>Xl (L.getD i Q0).1 (L.getD i Q0).2.1))]from⟨⟨rfl,_,rfl,hv0⟩,trivial⟩) fun a hI=>?_
 refine Qo hI [Ec 0 2 (pB false)] [0] (.k .z) ?_ (.kk .z) fun a w hI=>?_
 ·exact⟨Qc (.const _) (.here 1 rfl),trivial⟩
 refine wp_seq ?_
 refine Qo hI [Ec 0 5 (Qj 2 true L.length (fun i=>Xl (L.getD i Q0).1 (L.getD i Q0).2.1)),Ec 1 6 (pI (L.length:Int)),Ec 2 7 (pI 0)] [0,1,3] (.kk .z) ?_ (.dkkk (.k .z)) fun a w hI=>?_
 ·exact⟨Qa (.tp 0 rfl) (.here 2 rfl),Q4 (.tp 2 rfl) (Wb).under (.here 3 rfl),Qa (.const _) (.here 4 rfl),trivial⟩
 refine wp_block ?_
 refine Xz (fun(k:Nat) a w=>(k≤L.length∧∀q,q<k→lightE (L.getD q Q0)=true)∧Inv ⟨25,w0,M,fun _=>False⟩ [] [] [Ez 5 (Qj 2 true L.length (fun i=>Xl (L.getD i Q0).1 (L.getD i Q0).2.1)),Ez 6 (pI (L.length:Int)),Ez 7 (pI (k:Int))] Qi a w) (fun(k:Nat)=>L.length-k) (0) ⟨⟨Nat.zero_le _,fun q hq=>by omega⟩,(hI.conv trivial ⟨Qp 1 rfl,Qp 2 rfl,⟨rfl,rfl,3,_,rfl,(Xc (by omega))⟩,trivial⟩)⟩ ?_
 intro k a w hIk
 obtain⟨hp,hI⟩:=hIk
 refine Qo hI [Ec 0 8 (pB (decide ((k:Int)<(L.length:Int))))] [0] (.kkk .z) ?_ (.kkkk .z) fun a w hI=>?_
 ·exact⟨Qk (v:=.bool (decide ((k:Int)<(L.length:Int)))) (.tp 2 rfl) (.tp 1 rfl) (fun _=>rfl) (.here 3 rfl),trivial⟩
 refine wp_seq ?_
 refine Xm hI 3 rfl (fun ht=>?_) (fun ht=>?_)
 ·have t1:=of_decide_eq_true ht
  refine wp_skip ?_
  refine Qf ?_
  refine wp_seq ?_
  refine wp_block ?_
  refine Ql hI [⟨4,4,some 2,none,.ptr,82,2,true,pv (Xl 0 0),[(3,pv (Xl ((L.getD k Q0).1) ((L.getD k Q0).2.1)))]⟩] [Ec 0 9 (Ye 2 true (Xl ((L.getD k Q0).1) ((L.getD k Q0).2.1))),Ec 1 10 (Xl ((L.getD k Q0).1) ((L.getD k Q0).2.1))] [0,1,3,7] .z (.kkkk .z) ?_ (.s .o .z) (.kkkd (.dd .z)) fun a w hI=>?_
  ·exact⟨Qw (.tp 0 rfl) (.tp 2 rfl) Wb (.at_ 4 _ _ rfl (by rw[Int.toNat_natCast]; exact fun _ _ h=>h)),Q7 (.tp 4 rfl) Qcb (Qdk _ _) (.here 5 rfl),Yx 0 rfl rfl (by kernel_rfl) (by kernel_rfl) rfl rfl rfl zv_Frac rfl rfl (by simp[Yu]) rfl (fun w=>pFrac_of 0 0 w),X0 0 rfl rfl rfl rfl 0 rfl (by kernel_rfl) (by kernel_rfl) Qcb (.tp 5 rfl) (Qdk _ _),trivial⟩
  refine seq_T hI [] [⟨some 0,11,4,0,True⟩,⟨some 4,15,4,0,(decide (((L.getD k Q0).1)>(16777216:Int)))=false⟩,⟨some 9,20,4,1,((decide (((L.getD k Q0).1)>(16777216:Int)))||(decide (((L.getD k Q0).1)<(-16777216:Int))))=false⟩] [Ec 1 12 (pI ((L.getD k Q0).1)),Ec 2 13 (pB (decide (((L.getD k Q0).1)>(16777216:Int)))),Ec 3 14 (pB (decide (((L.getD k Q0).1)>(16777216:Int)))),Ec 5 16 (X4 ((decide (((L.getD k Q0).1)>(16777216:Int)))=false) (pI ((L.getD k Q0).1))),Ec 6 17 (X4 ((decide (((L.getD k Q0).1)>(16777216:Int)))=false) (pB (decide (((L.getD k Q0).1)<(-16777216:Int))))),Ec 7 18 (pB ((decide (((L.getD k Q0).1)>(16777216:Int)))||(decide (((L.getD k Q0).1)<(-16777216:Int))))),Ec 8 19 (pB ((decide (((L.getD k Q0).1)>(16777216:Int)))||(decide (((L.getD k Q0).1)<(-16777216:Int))))),Ec 10 21 (X4 (((decide (((L.getD k Q0).1)>(16777216:Int)))||(decide (((L.getD k Q0).1)<(-16777216:Int))))=false) (pI ((L.getD k Q0).2.1))),Ec 11 22 (X4 (((decide (((L.getD k Q0).1)>(16777216:Int)))||(decide (((L.getD k Q0).1)<(-16777216:Int))))=false) (pB (decide (((L.getD k Q0).2.1)>(16777216:Int))))),Ec 12 23 (pB (((decide (((L.getD k Q0).1)>(16777216:Int)))||(decide (((L.getD k Q0).1)<(-16777216:Int))))||(decide (((L.getD k Q0).2.1)>(16777216:Int)))))] (.k .z) (.kkk .z) rfl [0,1,3,7,15,31,63,127,255,511,1023,2047,4095] (by kernel_rfl) ?_ (.k .z) (.kkkd (.ddkk (.ddkk (.k .z)))) fun a w hI=>?_
  ·exact⟨Zs 0 rfl rfl rfl 0 rfl rfl rfl rfl (.inl ⟨rfl,rfl⟩) rfl (by kernel_rfl) (fun b w=>fa_Frac_0 b 0 w),Zj 0 rfl 0 rfl rfl rfl rfl rfl trivial rfl rfl (by kernel_rfl) ty_int64 rfl rfl (J2 (fs:=[⟨false,1,pI ((L.getD k Q0).1)⟩,⟨false,1,pI ((L.getD k Q0).2.1)⟩]) 0 (f:=⟨false,1,pI ((L.getD k Q0).1)⟩) rfl (off:=0) rfl) (.here 3 rfl),Qk (v:=.bool (decide (((L.getD k Q0).1)>(16777216:Int)))) (.tp 3 rfl) (.const _) (fun _=>rfl) (.here 4 rfl),Qa (.tp 4 rfl) (.here 5 rfl),op_if 5 rfl rfl (fun hc=>Zs 0 rfl rfl rfl 1 rfl rfl rfl rfl (.inl ⟨rfl,rfl⟩) rfl (by kernel_rfl) (fun b w=>fa_Frac_0 b 0 w)) (by kernel_rfl) (fun hc=>.at_ 1 rfl rfl rfl hc) (fun hc=>.none (by kernel_rfl)),Xd 5 rfl rfl (fun hc=>Zj 0 rfl 1 rfl rfl rfl rfl rfl hc rfl rfl (by kernel_rfl) ty_int64 rfl rfl (J2 (fs:=[⟨false,1,pI ((L.getD k Q0).1)⟩,⟨false,1,pI ((L.getD k Q0).2.1)⟩]) 0 (f:=⟨false,1,pI ((L.getD k Q0).1)⟩) rfl (off:=0) rfl) (.sel hc 6 rfl)) 6 rfl,Xd 5 rfl rfl (fun hc=>Qk (v:=.bool (decide (((L.getD k Q0).1)<(-16777216:Int)))) (.sel (.tp 6 rfl) hc) (.const _) (fun _=>rfl) (.sel hc 7 rfl)) 7 rfl,Yl (.tp 5 rfl) (fun h=>.imp (.const _) fun _ _ e=>by rw[h]; exact e) (fun h=>.imp (.sel (.tp 7 rfl) (h)) fun _ _ e=>by rw[h]; exact e) (.here 8 rfl),Qa (.tp 8 rfl) (.here 9 rfl),op_if 9 rfl rfl (fun hc=>Zs 0 rfl rfl rfl 2 rfl rfl rfl rfl (.inl ⟨rfl,rfl⟩) rfl (by kernel_rfl) (fun b w=>fa_Frac_1 b 0 w)) (by kernel_rfl) (fun hc=>.at_ 2 rfl rfl rfl hc) (fun hc=>.none (by kernel_rfl)),Xd 9 rfl rfl (fun hc=>Zj 0 rfl 2 rfl rfl rfl rfl rfl hc rfl rfl (by kernel_rfl) ty_int64 rfl rfl (J2 (fs:=[⟨false,1,pI ((L.getD k Q0).1)⟩,⟨false,1,pI ((L.getD k Q0).2.1)⟩]) 1 (f:=⟨false,1,pI ((L.getD k Q0).2.1)⟩) rfl (off:=1) rfl) (.sel hc 10 rfl)) 10 rfl,Xd 9 rfl rfl (fun hc=>Qk (v:=.bool (decide (((L.getD k Q0).2.1)>(16777216:Int)))) (.sel (.tp 10 rfl) hc) (.const _) (fun _=>rfl) (.sel hc 11 rfl)) 11 rfl,Yl (.tp 9 rfl) (fun h=>.imp (.const _) fun _ _ e=>by rw[h]; exact e) (fun h=>.imp (.sel (.tp 11 rfl) (h)) fun _ _ e=>by rw[h]; exact e) (.here 12 rfl),trivial⟩
  refine Xm hI 7 rfl (fun ht=>?_) (fun ht=>?_)
  ·have t2:=ht
   refine Ql hI [] [Ec 0 2 (pB false)] [0] (.k .z) (.k8 .z) ?_ (.k .z) (.kkkk (.kkkd (.k .z))) fun a w hI=>?_
   ·exact⟨Qc (.const _) (.here 8 rfl),trivial⟩
   refine wp_ret ?_
   refine Je ?_
   refine Xh ?_
   refine Xh ?_
   refine Je ?_
   refine Xh ?_
   exact Zu hI rfl (.imp (.tmp 7 rfl) (Y7 ((show false=Zi L from(all_false (i:=k) (by omega) (by unfold lightE; rw[t2]; rfl)).symm))))
  ·have t3:=ht
   refine wp_skip ?_
   refine Yf ?_
   refine Qf ?_
   refine Y4 hI [] [Ec 0 24 (pI ((k:Int)+(1:Int))),Ec 1 7 (pI ((k:Int)+(1:Int)))] [0,1] (.k .z) (.kk (.t 1 (.kkkk (.k .z)))) ?_ (.k .z) (.kkdk (.kkkd (.dk .z))) fun a w hI=>?_
   ·exact⟨Qk (v:=.int .i64 (IntKind.i64.wrap ((k:Int)+(1:Int)))) (.tp 2 rfl) (.const _) (fun _=>rfl) (.at_ 8 _ _ rfl (X8 (by omega))),Qa (.tp 8 rfl) (.here 9 rfl),trivial⟩
   refine Qf ?_
   exact⟨k+1,⟨⟨by omega,fun q hq=>by rcases Nat.lt_or_ge q k with h|h; exact hp.2 q h; rw[show q=k by omega]; exact(by unfold lightE; rw[t3]; rfl)⟩,(hI.conv trivial ⟨Qp 0 rfl,Qp 1 rfl,⟨rfl,rfl,6,_,rfl,(Xc (by omega))⟩,trivial⟩)⟩,(show L.length-(k+1)<L.length-k by omega)⟩
 ·have t4:=of_decide_eq_false ht
  refine wp_exit ?_
  refine Qy ?_
  refine Qy ?_
  refine Xv ?_
  refine Qf ?_
  refine Qo hI [Ec 0 2 (pB true)] [0] (.kkkk .z) ?_ (.dddd (.k .z)) fun a w hI=>?_
  ·exact⟨Qc (.const _) (.here 4 rfl),trivial⟩
  refine wp_ret ?_
  exact Zu hI rfl (.imp (.tmp 0 rfl) (Y7 ((show true=Zi L from(all_true fun i hi=>hp.2 i (by omega)).symm))))
theorem small_yes {LL:List (List FD)} (h:sideB LL.length=false) (h2:∀i,i<LL.length→Qc8 (LL.getD i [])=true):true=Q9 LL:=by
 unfold Q9
 rw[h,all_true h2]
 rfl
theorem small_no1 {LL:List (List FD)} (h:sideB LL.length=true):false=Q9 LL:=by
 unfold Q9
 rw[h]
 rfl
theorem small_no2 {LL:List (List FD)} {i:Nat} (hi:i<LL.length) (h:Qc8 (LL.getD i [])=false):false=Q9 LL:=by
 unfold Q9
 rw[all_false hi h,Bool.and_false]
theorem c_small {LL:List (List FD)} (hLL:LL.length≤9223372036854775807) (hLL2:∀i,i<LL.length→(LL.getD i []).length≤9223372036854775807):∀(M:Nat→Nat→Prop) (w:World) (v0:Value),Mid M w→Box M (fun w=>(Qj 1 false LL.length (fun i=>Qj 2 true (LL.getD i []).length (fun k=>Xl ((LL.getD i []).getD k Q0).1 ((LL.getD i []).getD k Q0).2.1))) w v0) w→Calls Tryz.prog 6 #[v0] w (RetB M (pB (Q9 LL)) w):=by
 intro M w0 v0 hM hv0
 refine Q5 (N:=43) Tryz.func6 rfl rfl rfl hM (show EntsA M w0 [v0] [Ez 0 (Qj 1 false LL.length (fun i=>Qj 2 true (LL.getD i []).length (fun k=>Xl ((LL.getD i []).getD k Q0).1 ((LL.getD i []).getD k Q0).2.1)))]from⟨⟨rfl,_,rfl,hv0⟩,trivial⟩) fun a hI=>?_
 refine Qo hI [Ec 0 2 (pB false)] [0] (.k .z) ?_ (.kk .z) fun a w hI=>?_
 ·exact⟨Qc (.const _) (.here 1 rfl),trivial⟩
 refine wp_seq ?_
 refine Qo hI [Ec 0 5 (Qj 1 false LL.length (fun i=>Qj 2 true (LL.getD i []).length (fun k=>Xl ((LL.getD i []).getD k Q0).1 ((LL.getD i []).getD k Q0).2.1))),Ec 1 6 (pI (LL.length:Int)),Ec 2 7 (pB (decide ((LL.length:Int)>(4:Int)))),Ec 3 8 (pB (decide ((LL.length:Int)>(4:Int)))),Ec 4 9 (X4 ((decide ((LL.length:Int)>(4:Int)))=true) (Qj 1 false LL.length (fun i=>Qj 2 true (LL.getD i []).length (fun k=>Xl ((LL.getD i []).getD k Q0).1 ((LL.getD i []).getD k Q0).2.1)))),Ec 5 10 (X4 ((decide ((LL.length:Int)>(4:Int)))=true) (pI (LL.length:Int))),Ec 6 11 (X4 ((decide ((LL.length:Int)>(4:Int)))=true) (pB (decide ((LL.length:Int)≤(8:Int))))),Ec 7 12 (pB ((decide ((LL.length:Int)>(4:Int)))&&(decide ((LL.length:Int)≤(8:Int))))),Ec 8 13 (pB ((decide ((LL.length:Int)>(4:Int)))&&(decide ((LL.length:Int)≤(8:Int))))),Ec 9 14 (X4 (((decide ((LL.length:Int)>(4:Int)))&&(decide ((LL.length:Int)≤(8:Int))))=false) (Qj 1 false LL.length (fun i=>Qj 2 true (LL.getD i []).length (fun k=>Xl ((LL.getD i []).getD k Q0).1 ((LL.getD i []).getD k Q0).2.1)))),Ec 10 15 (X4 (((decide ((LL.length:Int)>(4:Int)))&&(decide ((LL.length:Int)≤(8:Int))))=false) (pI (LL.length:Int))),Ec 11 16 (X4 (((decide ((LL.length:Int)>(4:Int)))&&(decide ((LL.length:Int)≤(8:Int))))=false) (pB (decide ((LL.length:Int)>(10:Int))))),Ec 12 17 (pB (((decide ((LL.length:Int)>(4:Int)))&&(decide ((LL.length:Int)≤(8:Int))))||(decide ((LL.length:Int)>(10:Int)))))] [0,1,3,7,15,31,63,127,255,511,1023,2047,4095] (.kk .z) ?_ (.kkdd (.d8 (.ddk .z))) fun a w hI=>?_
 ·exact⟨Qa (.tp 0 rfl) (.here 2 rfl),Q4 (.tp 2 rfl) (Ki).under (.here 3 rfl),Qk (v:=.bool (decide ((LL.length:Int)>(4:Int)))) (.tp 3 rfl) (.const _) (fun _=>rfl) (.here 4 rfl),Qa (.tp 4 rfl) (.here 5 rfl),Xd 5 rfl rfl (fun hc=>Qa (.tp 0 rfl) (.sel hc 6 rfl)) 6 rfl,Xd 5 rfl rfl (fun hc=>Q4 (.sel (.tp 6 rfl) hc) (Ki).under (.sel hc 7 rfl)) 7 rfl,Xd 5 rfl rfl (fun hc=>Qk (v:=.bool (decide ((LL.length:Int)≤(8:Int)))) (.sel (.tp 7 rfl) hc) (.const _) (fun _=>rfl) (.sel hc 8 rfl)) 8 rfl,Yl (.tp 5 rfl) (fun h=>.imp (.sel (.tp 8 rfl) (h)) fun _ _ e=>by rw[h]; exact e) (fun h=>.imp (.const _) fun _ _ e=>by rw[h]; exact e) (.here 9 rfl),Qa (.tp 9 rfl) (.here 10 rfl),Xd 10 rfl rfl (fun hc=>Qa (.tp 0 rfl) (.sel hc 11 rfl)) 11 rfl,Xd 10 rfl rfl (fun hc=>Q4 (.sel (.tp 11 rfl) hc) (Ki).under (.sel hc 12 rfl)) 12 rfl,Xd 10 rfl rfl (fun hc=>Qk (v:=.bool (decide ((LL.length:Int)>(10:Int)))) (.sel (.tp 12 rfl) hc) (.const _) (fun _=>rfl) (.sel hc 13 rfl)) 13 rfl,Yl (.tp 10 rfl) (fun h=>.imp (.const _) fun _ _ e=>by rw[h]; exact e) (fun h=>.imp (.sel (.tp 13 rfl) (h)) fun _ _ e=>by rw[h]; exact e) (.here 14 rfl),trivial⟩
 refine Xm hI 2 rfl (fun ht=>?_) (fun ht=>?_)
 ·have t1:=ht
  refine Qo hI [Ec 0 2 (pB false)] [0] (.k (.t 0 (.k .z))) ?_ (.kddk .z) fun a w hI=>?_
  ·exact⟨Qc (.const _) (.here 3 rfl),trivial⟩
  refine wp_ret ?_
  refine Xh ?_
  exact Zu hI rfl (.imp (.tmp 1 rfl) (Y7 (small_no1 t1)))
 ·have t2:=ht
  refine wp_skip ?_
  refine Qf ?_
  refine wp_seq ?_
  refine Qo hI [Ec 0 18 (Qj 1 false LL.length (fun i=>Qj 2 true (LL.getD i []).length (fun k=>Xl ((LL.getD i []).getD k Q0).1 ((LL.getD i []).getD k Q0).2.1))),Ec 1 19 (pI (LL.length:Int)),Ec 2 20 (pI 0)] [0,1,3] (.kkk .z) ?_ (.dkdk (.kk .z)) fun a w hI=>?_
  ·exact⟨Qa (.tp 0 rfl) (.here 3 rfl),Q4 (.tp 3 rfl) (Ki).under (.here 4 rfl),Qa (.const _) (.here 5 rfl),trivial⟩
  refine wp_block ?_
  refine Xz (fun(k:Nat) a w=>(k≤LL.length∧∀q,q<k→Qc8 (LL.getD q [])=true)∧Inv ⟨43,w0,M,fun _=>False⟩ [] [] [Ez 18 (Qj 1 false LL.length (fun i=>Qj 2 true (LL.getD i []).length (fun k=>Xl ((LL.getD i []).getD k Q0).1 ((LL.getD i []).getD k Q0).2.1))),Ez 19 (pI (LL.length:Int)),Ez 20 (pI (k:Int))] Qi a w) (fun(k:Nat)=>LL.length-k) (0) ⟨⟨Nat.zero_le _,fun q hq=>by omega⟩,(hI.conv trivial ⟨Qp 1 rfl,Qp 2 rfl,⟨rfl,rfl,3,_,rfl,(Xc (by omega))⟩,trivial⟩)⟩ ?_
  intro k a w hIk
  obtain⟨hp,hI⟩:=hIk
  refine Qo hI [Ec 0 21 (pB (decide ((k:Int)<(LL.length:Int))))] [0] (.kkk .z) ?_ (.kkkk .z) fun a w hI=>?_
  ·exact⟨Qk (v:=.bool (decide ((k:Int)<(LL.length:Int)))) (.tp 2 rfl) (.tp 1 rfl) (fun _=>rfl) (.here 3 rfl),trivial⟩
  refine wp_seq ?_
  refine Xm hI 3 rfl (fun ht=>?_) (fun ht=>?_)
  ·have t3:=of_decide_eq_true ht
   refine wp_skip ?_
   refine Qf ?_
   refine wp_seq ?_
   refine wp_block ?_
   refine Qo hI [Ec 0 22 (Ye 1 false (Qj 2 true (LL.getD k []).length (fun i=>Xl ((LL.getD k []).getD i Q0).1 ((LL.getD k []).getD i Q0).2.1))),Ec 1 23 (Qj 2 true (LL.getD k []).length (fun i=>Xl ((LL.getD k []).getD i Q0).1 ((LL.getD k []).getD i Q0).2.1)),Ec 2 4 (Qj 2 true (LL.getD k []).length (fun i=>Xl ((LL.getD k []).getD i Q0).1 ((LL.getD k []).getD i Q0).2.1))] [0,1,3] (.kkkk .z) ?_ (.kkkd (.ddk .z)) fun a w hI=>?_
   ·exact⟨Qw (.tp 0 rfl) (.tp 2 rfl) Ki (.at_ 4 _ _ rfl (by rw[Int.toNat_natCast]; exact fun _ _ h=>h)),Q7 (.tp 4 rfl) ty_Fracs (Wy) (.here 5 rfl),Qc (.tp 5 rfl) (.here 6 rfl),trivial⟩
   refine Qo hI [Ec 0 24 (Qj 2 true (LL.getD k []).length (fun i=>Xl ((LL.getD k []).getD i Q0).1 ((LL.getD k []).getD i Q0).2.1)),Ec 1 25 (pI ((LL.getD k []).length:Int)),Ec 2 26 (pB (decide (((LL.getD k []).length:Int)>(4:Int)))),Ec 3 27 (pB (decide (((LL.getD k []).length:Int)>(4:Int)))),Ec 4 28 (X4 ((decide (((LL.getD k []).length:Int)>(4:Int)))=true) (Qj 2 true (LL.getD k []).length (fun i=>Xl ((LL.getD k []).getD i Q0).1 ((LL.getD k []).getD i Q0).2.1))),Ec 5 29 (X4 ((decide (((LL.getD k []).length:Int)>(4:Int)))=true) (pI ((LL.getD k []).length:Int))),Ec 6 30 (X4 ((decide (((LL.getD k []).length:Int)>(4:Int)))=true) (pB (decide (((LL.getD k []).length:Int)≤(8:Int))))),Ec 7 31 (pB ((decide (((LL.getD k []).length:Int)>(4:Int)))&&(decide (((LL.getD k []).length:Int)≤(8:Int))))),Ec 8 32 (pB ((decide (((LL.getD k []).length:Int)>(4:Int)))&&(decide (((LL.getD k []).length:Int)≤(8:Int))))),Ec 9 33 (X4 (((decide (((LL.getD k []).length:Int)>(4:Int)))&&(decide (((LL.getD k []).length:Int)≤(8:Int))))=false) (Qj 2 true (LL.getD k []).length (fun i=>Xl ((LL.getD k []).getD i Q0).1 ((LL.getD k []).getD i Q0).2.1))),Ec 10 34 (X4 (((decide (((LL.getD k []).length:Int)>(4:Int)))&&(decide (((LL.getD k []).length:Int)≤(8:Int))))=false) (pI ((LL.getD k []).length:Int))),Ec 11 35 (X4 (((decide (((LL.getD k []).length:Int)>(4:Int)))&&(decide (((LL.getD k []).length:Int)≤(8:Int))))=false) (pB (decide (((LL.getD k []).length:Int)>(10:Int))))),Ec 12 36 (pB (((decide (((LL.getD k []).length:Int)>(4:Int)))&&(decide (((LL.getD k []).length:Int)≤(8:Int))))||(decide (((LL.getD k []).length:Int)>(10:Int))))),Ec 13 37 (pB (((decide (((LL.getD k []).length:Int)>(4:Int)))&&(decide (((LL.getD k []).length:Int)≤(8:Int))))||(decide (((LL.getD k []).length:Int)>(10:Int))))),Ec 14 38 (X4 ((((decide (((LL.getD k []).length:Int)>(4:Int)))&&(decide (((LL.getD k []).length:Int)≤(8:Int))))||(decide (((LL.getD k []).length:Int)>(10:Int))))=false) (Qj 2 true (LL.getD k []).length (fun i=>Xl ((LL.getD k []).getD i Q0).1 ((LL.getD k []).getD i Q0).2.1))),Ec 15 39 (X4 ((((decide (((LL.getD k []).length:Int)>(4:Int)))&&(decide (((LL.getD k []).length:Int)≤(8:Int))))||(decide (((LL.getD k []).length:Int)>(10:Int))))=false) (pB (Zi (LL.getD k [])))),Ec 16 40 (X4 ((((decide (((LL.getD k []).length:Int)>(4:Int)))&&(decide (((LL.getD k []).length:Int)≤(8:Int))))||(decide (((LL.getD k []).length:Int)>(10:Int))))=false) (pB (!(Zi (LL.getD k []))))),Ec 17 41 (pB ((((decide (((LL.getD k []).length:Int)>(4:Int)))&&(decide (((LL.getD k []).length:Int)≤(8:Int))))||(decide (((LL.getD k []).length:Int)>(10:Int))))||(!(Zi (LL.getD k [])))))] [0,1,3,7,15,31,63,127,255,511,1023,2047,4095,8191,16383,32767,65535,131071] (.kkkk .z) ?_ (.kkkd (.dddd (.kkkd (.dkkk (.ddkk (.kk .z)))))) fun a w hI=>?_
   ·exact⟨Qa (.tp 3 rfl) (.here 4 rfl),Q4 (.tp 4 rfl) (Wb).under (.here 5 rfl),Qk (v:=.bool (decide (((LL.getD k []).length:Int)>(4:Int)))) (.tp 5 rfl) (.const _) (fun _=>rfl) (.here 6 rfl),Qa (.tp 6 rfl) (.here 7 rfl),Xd 7 rfl rfl (fun hc=>Qa (.tp 3 rfl) (.sel hc 8 rfl)) 8 rfl,Xd 7 rfl rfl (fun hc=>Q4 (.sel (.tp 8 rfl) hc) (Wb).under (.sel hc 9 rfl)) 9 rfl,Xd 7 rfl rfl (fun hc=>Qk (v:=.bool (decide (((LL.getD k []).length:Int)≤(8:Int)))) (.sel (.tp 9 rfl) hc) (.const _) (fun _=>rfl) (.sel hc 10 rfl)) 10 rfl,Yl (.tp 7 rfl) (fun h=>.imp (.sel (.tp 10 rfl) (h)) fun _ _ e=>by rw[h]; exact e) (fun h=>.imp (.const _) fun _ _ e=>by rw[h]; exact e) (.here 11 rfl),Qa (.tp 11 rfl) (.here 12 rfl),Xd 12 rfl rfl (fun hc=>Qa (.tp 3 rfl) (.sel hc 13 rfl)) 13 rfl,Xd 12 rfl rfl (fun hc=>Q4 (.sel (.tp 13 rfl) hc) (Wb).under (.sel hc 14 rfl)) 14 rfl,Xd 12 rfl rfl (fun hc=>Qk (v:=.bool (decide (((LL.getD k []).length:Int)>(10:Int)))) (.sel (.tp 14 rfl) hc) (.const _) (fun _=>rfl) (.sel hc 15 rfl)) 15 rfl,Yl (.tp 12 rfl) (fun h=>.imp (.const _) fun _ _ e=>by rw[h]; exact e) (fun h=>.imp (.sel (.tp 15 rfl) (h)) fun _ _ e=>by rw[h]; exact e) (.here 16 rfl),Qa (.tp 16 rfl) (.here 17 rfl),Xd 17 rfl rfl (fun hc=>Qa (.tp 3 rfl) (.sel hc 18 rfl)) 18 rfl,Xd 17 rfl rfl (fun hc=>Q6 (fun _ _=>by kernel_rfl) (.sel (.tp 18 rfl) hc) (.sel hc 19 rfl) (c_light (hLL2 k (by omega)))) 19 rfl,Xd 17 rfl rfl (fun hc=>K9 (.sel (.tp 19 rfl) hc) (.sel hc 20 rfl)) 20 rfl,Yl (.tp 17 rfl) (fun h=>.imp (.const _) fun _ _ e=>by rw[h]; exact e) (fun h=>.imp (.sel (.tp 20 rfl) (h)) fun _ _ e=>by rw[h]; exact e) (.here 21 rfl),trivial⟩
   refine Xm hI 12 rfl (fun ht=>?_) (fun ht=>?_)
   ·have t4:=ht
    refine Qo hI [Ec 0 2 (pB false)] [0] (.k8 (.kkkk (.k .z))) ?_ (.k8 (.kkkk (.dk .z))) fun a w hI=>?_
    ·exact⟨Qc (.const _) (.here 13 rfl),trivial⟩
    refine wp_ret ?_
    refine Je ?_
    refine Xh ?_
    refine Xh ?_
    refine Je ?_
    refine Xh ?_
    exact Zu hI rfl (.imp (.tmp 12 rfl) (Y7 (small_no2 (i:=k) (by omega) (by unfold Qc8 sideB; rw[t4]; rfl))))
   ·have t5:=ht
    refine wp_skip ?_
    refine Yf ?_
    refine Qf ?_
    refine sem_T0 hI [Ec 0 42 (pI ((k:Int)+(1:Int))),Ec 1 20 (pI ((k:Int)+(1:Int)))] [0,1] (.kk (.t 1 (.k8 (.kk .z)))) ?_ (.kkdk (.k8 (.ddk .z))) fun a w hI=>?_
    ·exact⟨Qk (v:=.int .i64 (IntKind.i64.wrap ((k:Int)+(1:Int)))) (.tp 2 rfl) (.const _) (fun _=>rfl) (.at_ 13 _ _ rfl (X8 (by omega))),Qa (.tp 13 rfl) (.here 14 rfl),trivial⟩
    refine Qf ?_
    exact⟨k+1,⟨⟨by omega,fun q hq=>by rcases Nat.lt_or_ge q k with h|h; exact hp.2 q h; rw[show q=k by omega]; exact(by unfold Qc8 sideB; rw[t5]; rfl)⟩,(hI.conv trivial ⟨Qp 0 rfl,Qp 1 rfl,⟨rfl,rfl,11,_,rfl,(Xc (by omega))⟩,trivial⟩)⟩,(show LL.length-(k+1)<LL.length-k by omega)⟩
  ·have t6:=of_decide_eq_false ht
   refine wp_exit ?_
   refine Qy ?_
   refine Qy ?_
   refine Xv ?_
   refine Qf ?_
   refine Qo hI [Ec 0 2 (pB true)] [0] (.kkkk .z) ?_ (.dddd (.k .z)) fun a w hI=>?_
   ·exact⟨Qc (.const _) (.here 4 rfl),trivial⟩
   refine wp_ret ?_
   exact Zu hI rfl (.imp (.tmp 0 rfl) (Y7 (small_yes t2 (fun i hi=>hp.2 i (by omega)))))
theorem c_list {L:List FD} (hL:L.length≤1000000∧∀k,k<L.length→FdOk (L.getD k Q0)):∀(M:Nat→Nat→Prop) (w:World) (v0:Value),Mid M w→Box M (fun w=>(Qj 2 true L.length (fun i=>Xl (L.getD i Q0).1 (L.getD i Q0).2.1)) w v0) w→Calls Tryz.prog 13 #[v0] w (RetB M (Xn (Qd (Yd L)) (Qg (Yd L))) w):=by
 intro M w0 v0 hM hv0
 refine Q5 (N:=34) Tryz.func13 rfl rfl rfl hM (show EntsA M w0 [v0] [Ez 0 (Qj 2 true L.length (fun i=>Xl (L.getD i Q0).1 (L.getD i Q0).2.1))]from⟨⟨rfl,_,rfl,hv0⟩,trivial⟩) fun a hI=>?_
 refine Qo hI [Ec 0 2 (Qs ((Value.slice none 0 0))),Ec 1 3 (Qs ((Value.slice none 0 0)))] [0,1] (.k .z) ?_ (.kkk .z) fun a w hI=>?_
 ·exact⟨Qc (.const _) (.here 1 rfl),Qc (.const _) (.here 2 rfl),trivial⟩
 refine seq_D1 hI [⟨10,10,some 2,some 6,(.row L.length),38,(L.length*3),true,pv (Z4 3 true L.length (fun _=>Qq 0)),[]⟩,⟨13,13,some 5,some 7,(.row L.length),42,(L.length*3),true,pv (Z4 3 true L.length (fun _=>Xx)),[]⟩,⟨4,4,some 6,none,(.row L.length),38,(L.length*3),true,pv (Z4 3 true L.length (fun _=>Qq 0)),[]⟩,⟨5,5,some 7,none,(.row L.length),42,(L.length*3),true,pv (Z4 3 true L.length (fun _=>Xx)),[]⟩] [Ec 0 8 (Qj 2 true L.length (fun i=>Xl (L.getD i Q0).1 (L.getD i Q0).2.1)),Ec 1 9 (pI (L.length:Int)),Ec 3 11 (Qj 2 true L.length (fun i=>Xl (L.getD i Q0).1 (L.getD i Q0).2.1)),Ec 4 12 (pI (L.length:Int))] [0,1,3,0,8,24,7,127] .z (.kkk .z) ?_ (.d (.d (.k (.k .z)))) (.kkkd (.ddd .z)) fun a w hI=>?_
 ·exact⟨Qa (.tp 0 rfl) (.here 3 rfl),Q4 (.tp 3 rfl) (Wb).under (.here 4 rfl),Vn (n:=L.length) (p0:=Qq 0) (zv:=.agg #[.bool false,.slice none 0 0,.slice none 0 0]) (z:=[.bool false,.slice none 0 0,.slice none 0 0]) 0 rfl rfl (by kernel_rfl) (by kernel_rfl) (by kernel_rfl) rfl rfl rfl rfl rfl (.tp 4 rfl) (.tp 4 rfl) (Xo).under (by kernel_rfl) rfl rfl (by omega) (by simp[Yu]) (fun w=>Yy w) (by omega),Qa (.tp 0 rfl) (.here 5 rfl),Q4 (.tp 5 rfl) (Wb).under (.here 6 rfl),Vn (n:=L.length) (p0:=Xx) (zv:=.agg #[.bool false,.slice none 0 0,.slice none 0 0]) (z:=[.bool false,.slice none 0 0,.slice none 0 0]) 1 rfl rfl (by kernel_rfl) (by kernel_rfl) (by kernel_rfl) rfl rfl rfl rfl rfl (.tp 6 rfl) (.tp 6 rfl) (Zm).under (by kernel_rfl) rfl rfl (by omega) (by simp[Yu]) (fun _=>trivial) (by omega),Qas 0 rfl rfl rfl rfl rfl (by kernel_rfl) rfl 2 rfl rfl rfl rfl rfl rfl rfl rfl (by kernel_rfl) (by kernel_rfl),Qas 1 rfl rfl rfl rfl rfl (by kernel_rfl) rfl 3 rfl rfl rfl rfl rfl rfl rfl rfl (by kernel_rfl) (by kernel_rfl),trivial⟩
 refine wp_seq ?_
 refine Ql hI [] [Ec 0 14 (Qj 2 true L.length (fun i=>Xl (L.getD i Q0).1 (L.getD i Q0).2.1)),Ec 1 15 (pI (L.length:Int)),Ec 2 16 (pI 0)] [0,1,3] (.k (.k .z)) (.kkk .z) ?_ (.k (.k .z)) (.dkkk (.kk .z)) fun a w hI=>?_
 ·exact⟨Qa (.tp 0 rfl) (.here 3 rfl),Q4 (.tp 3 rfl) (Wb).under (.here 4 rfl),Qa (.const _) (.here 5 rfl),trivial⟩
 refine wp_block ?_
 refine Xz (fun(k:Nat) a w=>(k≤L.length)∧Inv ⟨34,w0,M,fun _=>False⟩ [⟨4,4,none,none,(.row L.length),38,(L.length*3),true,pv (Z4 3 true L.length (J8 k (fun i=>Qq ((Yd L).getD i 0)) (Qq 0))),[]⟩,⟨5,5,none,none,(.row L.length),42,(L.length*3),true,pv (Z4 3 true L.length (J8 k (fun i=>Qz ((Yd L).getD i 0)) (Xx))),[]⟩] [] [Ez 2 (Qs ((Value.slice none 0 0))),Ez 3 (Qs ((Value.slice none 0 0))),Ez 14 (Qj 2 true L.length (fun i=>Xl (L.getD i Q0).1 (L.getD i Q0).2.1)),Ez 15 (pI (L.length:Int)),Ez 16 (pI (k:Int))] Qi a w) (fun(k:Nat)=>L.length-k) (0) ⟨Nat.zero_le _,(hI.conv ⟨⟨0,_,_,rfl,⟨rfl,rfl,rfl⟩,rfl,fun _=>(Vu Qdj)⟩,⟨1,_,_,rfl,⟨rfl,rfl,rfl⟩,rfl,fun _=>(Vu Qdj)⟩,trivial⟩ ⟨Qp 0 rfl,Qp 1 rfl,Qp 2 rfl,Qp 3 rfl,⟨rfl,rfl,4,_,rfl,(Xc (by omega))⟩,trivial⟩)⟩ ?_
 intro k a w hIk
 obtain⟨hp,hI⟩:=hIk
 refine Ql hI [] [Ec 0 17 (pB (decide ((k:Int)<(L.length:Int))))] [0] (.k (.k .z)) (.kkkk (.k .z)) ?_ (.k (.k .z)) (.kkkk (.kk .z)) fun a w hI=>?_
 ·exact⟨Qk (v:=.bool (decide ((k:Int)<(L.length:Int)))) (.tp 4 rfl) (.tp 3 rfl) (fun _=>rfl) (.here 5 rfl),trivial⟩
 refine wp_seq ?_
 refine Xm hI 5 rfl (fun ht=>?_) (fun ht=>?_)
 ·have t1:=of_decide_eq_true ht
  refine wp_skip ?_
  refine Qf ?_
  refine wp_seq ?_
  refine wp_block ?_
  refine Ql hI [⟨7,7,some 3,none,.ptr,82,2,true,pv (Xl 0 0),[(5,pv (Xl ((L.getD k Q0).1) ((L.getD k Q0).2.1)))]⟩] [Ec 0 18 (pI (k:Int)),Ec 1 19 (Ye 2 true (Xl ((L.getD k Q0).1) ((L.getD k Q0).2.1))),Ec 2 20 (Xl ((L.getD k Q0).1) ((L.getD k Q0).2.1)),Ec 4 6 (pI (k:Int))] [0,1,3,7,15,31] (.k (.k .z)) (.kkkk (.kk .z)) ?_ (.k (.k (.s .o .z))) (.kkkk (.kddd (.dk .z))) fun a w hI=>?_
  ·exact⟨Qa (.tp 4 rfl) (.here 6 rfl),Qw (.tp 2 rfl) (.tp 4 rfl) Wb (.at_ 7 _ _ rfl (by rw[Int.toNat_natCast]; exact fun _ _ h=>h)),Q7 (.tp 7 rfl) Qcb (Qdk _ _) (.here 8 rfl),Yx 2 rfl rfl (by kernel_rfl) (by kernel_rfl) rfl rfl rfl zv_Frac rfl rfl (by simp[Yu]) rfl (fun w=>pFrac_of 0 0 w),Qc (.tp 6 rfl) (.here 9 rfl),X0 2 rfl rfl rfl rfl 0 rfl (by kernel_rfl) (by kernel_rfl) Qcb (.tp 8 rfl) (Qdk _ _),trivial⟩
  obtain⟨g1,hI⟩:=hI.openRow 0 rfl rfl rfl
  refine Ql hI [] [Ec 0 21 (Qs (.slice (some ⟨g1,0,none⟩) L.length L.length)),Ec 1 22 (pI (k:Int)),Ec 2 23 (Xl ((L.getD k Q0).1) ((L.getD k Q0).2.1)),Ec 3 24 (Qq ((Yd L).getD k 0)),Ec 4 25 (Qs (.pointer (some ⟨g1,0+((k:Int)).toNat*3,none⟩)))] [0,1,3,7,15,31] (.u none [(5,pv (Z4 3 true L.length (setP (J8 k (fun i=>Qq ((Yd L).getD i 0)) (Qq 0)) k (Qq ((Yd L).getD k 0)))))] (.k (.k .z))) (.kkkk (.kkk .z)) ?_ (.s .o (.k (.k .z))) (.kkkk (.kkkd (.dddd .z))) fun a w hI=>?_
  ·exact⟨Qa (.tp 0 rfl) (.here 7 rfl),Qa (.tp 6 rfl) (.here 8 rfl),Xp 2 rfl rfl rfl rfl (by kernel_rfl) Qcb rfl (.here 9 rfl),Zf (fun _ _=>by kernel_rfl) (Y5 _) (.tp 9 rfl) (.here 10 rfl) (c_of (lofs_get (L:=L) (i:=k) (by omega)) (hL.2 k (by omega))),Xk (.tp 7 rfl) (.tp 8 rfl) Xo (.here 11 rfl),Qaa (sz:=3) (n:=L.length) (q:=k) (ag:=true) (f:=J8 k (fun i=>Qq ((Yd L).getD i 0)) (Qq 0)) (p:=Qq ((Yd L).getD k 0)) 0 rfl rfl rfl (by kernel_rfl) rfl rfl 0 rfl (by kernel_rfl) (by kernel_rfl) (.tp 0 rfl) (.tp 11 rfl) (show 0+((k:Int)).toNat*3=k*3 by omega) (by omega) Q8 rfl (.tp 10 rfl) (Yb _),trivial⟩
  obtain⟨g2,hI⟩:=hI.openRow 1 rfl rfl rfl
  refine Y4 hI [] [Ec 0 26 (Qs (.slice (some ⟨g2,0,none⟩) L.length L.length)),Ec 1 27 (pI (k:Int)),Ec 2 28 (Xl ((L.getD k Q0).1) ((L.getD k Q0).2.1)),Ec 3 29 (Qz ((Yd L).getD k 0)),Ec 4 30 (Qs (.pointer (some ⟨g2,0+((k:Int)).toNat*3,none⟩)))] [0,1,3,7,15,31] (.k (.u none [(5,pv (Z4 3 true L.length (setP (J8 k (fun i=>Qz ((Yd L).getD i 0)) (Xx)) k (Qz ((Yd L).getD k 0)))))] (.k .z))) (.k8 .z) ?_ (.k (.s .o (.k .z))) (.kkkk (.kkkd (.dddd (.d .z)))) fun a w hI=>?_
  ·exact⟨Qa (.tp 0 rfl) (.here 8 rfl),Qa (.tp 7 rfl) (.here 9 rfl),Xp 2 rfl rfl rfl rfl (by kernel_rfl) Qcb rfl (.here 10 rfl),Zf (fun _ _=>by kernel_rfl) (Yo _) (.tp 10 rfl) (.here 11 rfl) (cn_ofk (lofs_get (L:=L) (i:=k) (by omega)) (hL.2 k (by omega)).1 (hL.2 k (by omega)).2.1 (hL.2 k (by omega)).2.2),Xk (.tp 8 rfl) (.tp 9 rfl) Zm (.here 12 rfl),Qaa (sz:=3) (n:=L.length) (q:=k) (ag:=true) (f:=J8 k (fun i=>Qz ((Yd L).getD i 0)) (Xx)) (p:=Qz ((Yd L).getD k 0)) 1 rfl rfl rfl (by kernel_rfl) rfl rfl 0 rfl (by kernel_rfl) (by kernel_rfl) (.tp 0 rfl) (.tp 12 rfl) (show 0+((k:Int)).toNat*3=k*3 by omega) (by omega) Yz rfl (.tp 11 rfl) (Yn _),trivial⟩
  refine Yf ?_
  refine Qf ?_
  refine Y4 hI [] [Ec 0 31 (pI ((k:Int)+(1:Int))),Ec 1 16 (pI ((k:Int)+(1:Int)))] [0,1] (.k (.k (.k .z))) (.kkkk (.kk (.t 1 .z))) ?_ (.k (.k (.k .z))) (.kkkk (.kkdd (.k .z))) fun a w hI=>?_
  ·exact⟨Qk (v:=.int .i64 (IntKind.i64.wrap ((k:Int)+(1:Int)))) (.tp 6 rfl) (.const _) (fun _=>rfl) (.at_ 7 _ _ rfl (X8 (by omega))),Qa (.tp 7 rfl) (.here 8 rfl),trivial⟩
  refine Qf ?_
  exact⟨k+1,⟨(show k+1≤L.length by omega),(hI.conv ⟨⟨0,_,_,rfl,⟨rfl,rfl,rfl⟩,rfl,fun _=>(Vu (U5 fun _ _ q=>q))⟩,⟨1,_,_,rfl,⟨rfl,rfl,rfl⟩,rfl,fun _=>(Vu (U5 fun _ _ q=>q))⟩,trivial⟩ ⟨Qp 2 rfl,Qp 3 rfl,Qp 4 rfl,Qp 5 rfl,⟨rfl,rfl,6,_,rfl,(Xc (by omega))⟩,trivial⟩)⟩,(show L.length-(k+1)<L.length-k by omega)⟩
 ·have t2:=of_decide_eq_false ht
  refine wp_exit ?_
  refine Qy ?_
  refine Qy ?_
  refine Xv ?_
  refine Qf ?_
  obtain⟨g3,hI⟩:=hI.openRow 0 rfl rfl rfl
  replace hI:=hI.restRow (n0:=0) (k0:=0) (f':=(fun i=>Qq ((Yd L).getD i 0))) rfl (by kernel_rfl) (by omega) (fun i hi w v q=>by rw[show k=L.length by omega]at q; exact Qee i hi w v q)
  obtain⟨g4,hI⟩:=hI.openRow 0 rfl rfl rfl
  replace hI:=hI.restRow (n0:=0) (k0:=0) (f':=(fun i=>Qz ((Yd L).getD i 0))) rfl (by kernel_rfl) (by omega) (fun i hi w v q=>by rw[show k=L.length by omega]at q; exact Qee i hi w v q)
  refine Qo hI [Ec 0 32 (Qj 3 true L.length (fun i=>Qq ((Yd L).getD i 0))),Ec 1 33 (Qj 3 true L.length (fun i=>Qz ((Yd L).getD i 0))),Ec 2 2 (Qj 3 true L.length (fun i=>Qq ((Yd L).getD i 0))),Ec 3 3 (Qj 3 true L.length (fun i=>Qz ((Yd L).getD i 0)))] [0,1,3,7] (.kk (.t 2 (.t 3 (.kkkk .z)))) ?_ (.d8 (.ddkk .z)) fun a w hI=>?_
  ·exact⟨Qa (.tp 1 rfl) (.here 8 rfl),Qa (.tp 0 rfl) (.here 9 rfl),Qc (.tp 8 rfl) (.here 10 rfl),Qc (.tp 9 rfl) (.here 11 rfl),trivial⟩
  refine wp_ret ?_
  exact K7 hI rfl (.imp (.tmp 0 rfl) (fun w v h=>by rw[pRats_len Qcs]; exact h)) (.imp (.tmp 1 rfl) (fun w v h=>by rw[pRefs_len Qcs]; exact h))
theorem c_matrix {LL:List (List FD)} (hLL:LL.length≤1000000∧∀i,i<LL.length→(LL.getD i []).length≤1000000∧∀k,k<(LL.getD i []).length→FdOk ((LL.getD i []).getD k Q0)):∀(M:Nat→Nat→Prop) (w:World) (v0:Value),Mid M w→Box M (fun w=>(Qj 1 false LL.length (fun i=>Qj 2 true (LL.getD i []).length (fun k=>Xl ((LL.getD i []).getD k Q0).1 ((LL.getD i []).getD k Q0).2.1))) w v0) w→Calls Tryz.prog 8 #[v0] w (RetB M (Xn (Qj 1 false LL.length (fun i=>Qd ((Qt LL).getD i []))) (Qj 1 false LL.length (fun i=>Qg ((Qt LL).getD i [])))) w):=by
 intro M w0 v0 hM hv0
 refine Q5 (N:=35) Tryz.func8 rfl rfl rfl hM (show EntsA M w0 [v0] [Ez 0 (Qj 1 false LL.length (fun i=>Qj 2 true (LL.getD i []).length (fun k=>Xl ((LL.getD i []).getD k Q0).1 ((LL.getD i []).getD k Q0).2.1)))]from⟨⟨rfl,_,rfl,hv0⟩,trivial⟩) fun a hI=>?_
 refine Qo hI [Ec 0 2 (Qs ((Value.slice none 0 0))),Ec 1 3 (Qs ((Value.slice none 0 0)))] [0,1] (.k .z) ?_ (.kkk .z) fun a w hI=>?_
 ·exact⟨Qc (.const _) (.here 1 rfl),Qc (.const _) (.here 2 rfl),trivial⟩
 refine seq_D1 hI [⟨10,10,some 2,some 6,(.row LL.length),39,(LL.length*1),true,pv (Z4 1 false LL.length (fun _=>Qs (.slice none 0 0))),[]⟩,⟨13,13,some 5,some 7,(.row LL.length),34,(LL.length*1),true,pv (Z4 1 false LL.length (fun _=>Qs (.slice none 0 0))),[]⟩,⟨4,4,some 6,none,(.row LL.length),39,(LL.length*1),true,pv (Z4 1 false LL.length (fun _=>Qs (.slice none 0 0))),[]⟩,⟨5,5,some 7,none,(.row LL.length),34,(LL.length*1),true,pv (Z4 1 false LL.length (fun _=>Qs (.slice none 0 0))),[]⟩] [Ec 0 8 (Qj 1 false LL.length (fun i=>Qj 2 true (LL.getD i []).length (fun k=>Xl ((LL.getD i []).getD k Q0).1 ((LL.getD i []).getD k Q0).2.1))),Ec 1 9 (pI (LL.length:Int)),Ec 3 11 (Qj 1 false LL.length (fun i=>Qj 2 true (LL.getD i []).length (fun k=>Xl ((LL.getD i []).getD k Q0).1 ((LL.getD i []).getD k Q0).2.1))),Ec 4 12 (pI (LL.length:Int))] [0,1,3,0,8,24,7,127] .z (.kkk .z) ?_ (.d (.d (.k (.k .z)))) (.kkkd (.ddd .z)) fun a w hI=>?_
 ·exact⟨Qa (.tp 0 rfl) (.here 3 rfl),Q4 (.tp 3 rfl) (Ki).under (.here 4 rfl),Vn (n:=LL.length) (p0:=Qs (.slice none 0 0)) (zv:=.slice none 0 0) (z:=[.slice none 0 0]) 0 rfl rfl (by kernel_rfl) (by kernel_rfl) (by kernel_rfl) rfl rfl rfl rfl rfl (.tp 4 rfl) (.tp 4 rfl) (Xb).under (by kernel_rfl) rfl rfl (by omega) (by simp[Yu]) (fun _=>rfl) (by omega),Qa (.tp 0 rfl) (.here 5 rfl),Q4 (.tp 5 rfl) (Ki).under (.here 6 rfl),Vn (n:=LL.length) (p0:=Qs (.slice none 0 0)) (zv:=.slice none 0 0) (z:=[.slice none 0 0]) 1 rfl rfl (by kernel_rfl) (by kernel_rfl) (by kernel_rfl) rfl rfl rfl rfl rfl (.tp 6 rfl) (.tp 6 rfl) (Xr).under (by kernel_rfl) rfl rfl (by omega) (by simp[Yu]) (fun _=>rfl) (by omega),Qas 0 rfl rfl rfl rfl rfl (by kernel_rfl) rfl 2 rfl rfl rfl rfl rfl rfl rfl rfl (by kernel_rfl) (by kernel_rfl),Qas 1 rfl rfl rfl rfl rfl (by kernel_rfl) rfl 3 rfl rfl rfl rfl rfl rfl rfl rfl (by kernel_rfl) (by kernel_rfl),trivial⟩
 refine wp_seq ?_
 refine Ql hI [] [Ec 0 14 (Qj 1 false LL.length (fun i=>Qj 2 true (LL.getD i []).length (fun k=>Xl ((LL.getD i []).getD k Q0).1 ((LL.getD i []).getD k Q0).2.1))),Ec 1 15 (pI (LL.length:Int)),Ec 2 16 (pI 0)] [0,1,3] (.k (.k .z)) (.kkk .z) ?_ (.k (.k .z)) (.dkkk (.kk .z)) fun a w hI=>?_
 ·exact⟨Qa (.tp 0 rfl) (.here 3 rfl),Q4 (.tp 3 rfl) (Ki).under (.here 4 rfl),Qa (.const _) (.here 5 rfl),trivial⟩
 refine wp_block ?_
 refine Xz (fun(k:Nat) a w=>(k≤LL.length)∧Inv ⟨35,w0,M,fun _=>False⟩ [⟨4,4,none,none,(.row LL.length),39,(LL.length*1),true,pv (Z4 1 false LL.length (J8 k (fun i=>Qd ((Qt LL).getD i [])) (Qs (.slice none 0 0)))),[]⟩,⟨5,5,none,none,(.row LL.length),34,(LL.length*1),true,pv (Z4 1 false LL.length (J8 k (fun i=>Qg ((Qt LL).getD i [])) (Qs (.slice none 0 0)))),[]⟩] [] [Ez 2 (Qs ((Value.slice none 0 0))),Ez 3 (Qs ((Value.slice none 0 0))),Ez 14 (Qj 1 false LL.length (fun i=>Qj 2 true (LL.getD i []).length (fun k=>Xl ((LL.getD i []).getD k Q0).1 ((LL.getD i []).getD k Q0).2.1))),Ez 15 (pI (LL.length:Int)),Ez 16 (pI (k:Int))] Qi a w) (fun(k:Nat)=>LL.length-k) (0) ⟨Nat.zero_le _,(hI.conv ⟨⟨0,_,_,rfl,⟨rfl,rfl,rfl⟩,rfl,fun _=>(Vu Qdj)⟩,⟨1,_,_,rfl,⟨rfl,rfl,rfl⟩,rfl,fun _=>(Vu Qdj)⟩,trivial⟩ ⟨Qp 0 rfl,Qp 1 rfl,Qp 2 rfl,Qp 3 rfl,⟨rfl,rfl,4,_,rfl,(Xc (by omega))⟩,trivial⟩)⟩ ?_
 intro k a w hIk
 obtain⟨hp,hI⟩:=hIk
 refine Ql hI [] [Ec 0 17 (pB (decide ((k:Int)<(LL.length:Int))))] [0] (.k (.k .z)) (.kkkk (.k .z)) ?_ (.k (.k .z)) (.kkkk (.kk .z)) fun a w hI=>?_
 ·exact⟨Qk (v:=.bool (decide ((k:Int)<(LL.length:Int)))) (.tp 4 rfl) (.tp 3 rfl) (fun _=>rfl) (.here 5 rfl),trivial⟩
 refine wp_seq ?_
 refine Xm hI 5 rfl (fun ht=>?_) (fun ht=>?_)
 ·have t1:=of_decide_eq_true ht
  refine wp_skip ?_
  refine Qf ?_
  refine wp_seq ?_
  refine wp_block ?_
  refine Ql hI [] [Ec 0 18 (pI (k:Int)),Ec 1 19 (Ye 1 false (Qj 2 true (LL.getD k []).length (fun i=>Xl ((LL.getD k []).getD i Q0).1 ((LL.getD k []).getD i Q0).2.1))),Ec 2 20 (Qj 2 true (LL.getD k []).length (fun i=>Xl ((LL.getD k []).getD i Q0).1 ((LL.getD k []).getD i Q0).2.1)),Ec 3 6 (pI (k:Int)),Ec 4 7 (Qj 2 true (LL.getD k []).length (fun i=>Xl ((LL.getD k []).getD i Q0).1 ((LL.getD k []).getD i Q0).2.1))] [0,1,3,7,15] (.k (.k .z)) (.kkkk (.kk .z)) ?_ (.k (.k .z)) (.kkkk (.kddd (.dkk .z))) fun a w hI=>?_
  ·exact⟨Qa (.tp 4 rfl) (.here 6 rfl),Qw (.tp 2 rfl) (.tp 4 rfl) Ki (.at_ 7 _ _ rfl (by rw[Int.toNat_natCast]; exact fun _ _ h=>h)),Q7 (.tp 7 rfl) ty_Fracs (Wy) (.here 8 rfl),Qc (.tp 6 rfl) (.here 9 rfl),Qc (.tp 8 rfl) (.here 10 rfl),trivial⟩
  obtain⟨g1,hI⟩:=hI.openRow 0 rfl rfl rfl
  obtain⟨g2,hI⟩:=hI.openRow 1 rfl rfl rfl
  refine Y4 hI [] [Ec 0 22 (Qs (.slice (some ⟨g1,0,none⟩) LL.length LL.length)),Ec 1 23 (pI (k:Int)),Ec 2 24 (Qs (.slice (some ⟨g2,0,none⟩) LL.length LL.length)),Ec 3 25 (pI (k:Int)),Ec 4 26 (Qj 2 true (LL.getD k []).length (fun i=>Xl ((LL.getD k []).getD i Q0).1 ((LL.getD k []).getD i Q0).2.1)),Ec 5 27 (Xn (Qd (Yd (LL.getD k []))) (Qg (Yd (LL.getD k [])))),Ec 6 21 (Xn (Qd (Yd (LL.getD k []))) (Qg (Yd (LL.getD k [])))),Ec 7 28 (Qd (Yd (LL.getD k []))),Ec 8 29 (Qg (Yd (LL.getD k []))),Ec 9 30 (Qs (.pointer (some ⟨g1,0+((k:Int)).toNat*1,none⟩))),Ec 11 31 (Qs (.pointer (some ⟨g2,0+((k:Int)).toNat*1,none⟩)))] [0,1,3,7,15,31,63,127,255,511,1023,2047,4095] (.u none [(10,pv (Z4 1 false LL.length (setP (J8 k (fun i=>Qd ((Qt LL).getD i [])) (Qs (.slice none 0 0))) k (Qd (Yd (LL.getD k []))))))] (.u none [(12,pv (Z4 1 false LL.length (setP (J8 k (fun i=>Qg ((Qt LL).getD i [])) (Qs (.slice none 0 0))) k (Qg (Yd (LL.getD k []))))))] .z)) (.k8 (.k .z)) ?_ (.s .o (.s .o .z)) (.kkkk (.kkkd (.d8 (.dddd .z)))) fun a w hI=>?_
  ·exact⟨Qa (.tp 1 rfl) (.here 9 rfl),Qa (.tp 7 rfl) (.here 10 rfl),Qa (.tp 0 rfl) (.here 11 rfl),Qa (.tp 7 rfl) (.here 12 rfl),Qa (.tp 8 rfl) (.here 13 rfl),Q6 (fun _ _=>by kernel_rfl) (.tp 13 rfl) (.here 14 rfl) (c_list (hLL.2 k (by omega))),Qa (.tp 14 rfl) (.here 15 rfl),Yh (.tp 15 rfl) Ue (.here 16 rfl),Yh (.tp 15 rfl) Uf (.here 17 rfl),Xk (.tp 9 rfl) (.tp 10 rfl) Xb (.here 18 rfl),Qaa (sz:=1) (n:=LL.length) (q:=k) (ag:=false) (f:=J8 k (fun i=>Qd ((Qt LL).getD i [])) (Qs (.slice none 0 0))) (p:=Qd (Yd (LL.getD k []))) 0 rfl rfl rfl (by kernel_rfl) rfl rfl 0 rfl (by kernel_rfl) (by kernel_rfl) (.tp 1 rfl) (.tp 18 rfl) (show 0+((k:Int)).toNat*1=k*1 by omega) (by omega) X6 rfl (.tp 16 rfl) (Y6 _),Xk (.tp 11 rfl) (.tp 12 rfl) Xr (.here 19 rfl),Qaa (sz:=1) (n:=LL.length) (q:=k) (ag:=false) (f:=J8 k (fun i=>Qg ((Qt LL).getD i [])) (Qs (.slice none 0 0))) (p:=Qg (Yd (LL.getD k []))) 1 rfl rfl rfl (by kernel_rfl) rfl rfl 0 rfl (by kernel_rfl) (by kernel_rfl) (.tp 0 rfl) (.tp 19 rfl) (show 0+((k:Int)).toNat*1=k*1 by omega) (by omega) J5 rfl (.tp 17 rfl) (Zp _),trivial⟩
  refine Yf ?_
  refine Qf ?_
  refine Y4 hI [] [Ec 0 32 (pI ((k:Int)+(1:Int))),Ec 1 16 (pI ((k:Int)+(1:Int)))] [0,1] (.k (.k .z)) (.kkkk (.kk (.t 1 .z))) ?_ (.k (.k .z)) (.kkkk (.kkdd (.k .z))) fun a w hI=>?_
  ·exact⟨Qk (v:=.int .i64 (IntKind.i64.wrap ((k:Int)+(1:Int)))) (.tp 6 rfl) (.const _) (fun _=>rfl) (.at_ 7 _ _ rfl (X8 (by omega))),Qa (.tp 7 rfl) (.here 8 rfl),trivial⟩
  refine Qf ?_
  exact⟨k+1,⟨(show k+1≤LL.length by omega),(hI.conv ⟨⟨0,_,_,rfl,⟨rfl,rfl,rfl⟩,rfl,fun _=>(Vu (U5 fun w v q=>by rw[Qcu (by omega)]; exact q))⟩,⟨1,_,_,rfl,⟨rfl,rfl,rfl⟩,rfl,fun _=>(Vu (U5 fun w v q=>by rw[Qcu (by omega)]; exact q))⟩,trivial⟩ ⟨Qp 2 rfl,Qp 3 rfl,Qp 4 rfl,Qp 5 rfl,⟨rfl,rfl,6,_,rfl,(Xc (by omega))⟩,trivial⟩)⟩,(show LL.length-(k+1)<LL.length-k by omega)⟩
 ·have t2:=of_decide_eq_false ht
  refine wp_exit ?_
  refine Qy ?_
  refine Qy ?_
  refine Xv ?_
  refine Qf ?_
  obtain⟨g3,hI⟩:=hI.openRow 0 rfl rfl rfl
  replace hI:=hI.restRow (n0:=0) (k0:=0) (f':=(fun i=>Qd ((Qt LL).getD i []))) rfl (by kernel_rfl) (by omega) (fun i hi w v q=>by rw[show k=LL.length by omega]at q; exact Qee i hi w v q)
  obtain⟨g4,hI⟩:=hI.openRow 0 rfl rfl rfl
  replace hI:=hI.restRow (n0:=0) (k0:=0) (f':=(fun i=>Qg ((Qt LL).getD i []))) rfl (by kernel_rfl) (by omega) (fun i hi w v q=>by rw[show k=LL.length by omega]at q; exact Qee i hi w v q)
  refine Qo hI [Ec 0 33 (Qj 1 false LL.length (fun i=>Qd ((Qt LL).getD i []))),Ec 1 34 (Qj 1 false LL.length (fun i=>Qg ((Qt LL).getD i []))),Ec 2 2 (Qj 1 false LL.length (fun i=>Qd ((Qt LL).getD i []))),Ec 3 3 (Qj 1 false LL.length (fun i=>Qg ((Qt LL).getD i [])))] [0,1,3,7] (.kk (.t 2 (.t 3 (.kkkk .z)))) ?_ (.d8 (.ddkk .z)) fun a w hI=>?_
  ·exact⟨Qa (.tp 1 rfl) (.here 8 rfl),Qa (.tp 0 rfl) (.here 9 rfl),Qc (.tp 8 rfl) (.here 10 rfl),Qc (.tp 9 rfl) (.here 11 rfl),trivial⟩
  refine wp_ret ?_
  exact K7 hI rfl (.tmp 0 rfl) (.tmp 1 rfl)
theorem c_Are {A:List Rat} {j:Nat} (hA:A.length≤1000000) (hb:∀k,BdR j (A.getD k 0)) (hj:j≤100000000):∀(M:Nat→Nat→Prop) (w:World) (v0 v1:Value),Mid M w→Box M (fun w=>(Qd A) w v0) w→Box M (fun w=>(Qg A) w v1) w→Calls Tryz.prog 30 #[v0,v1] w (RetB M (pB true) w):=by
 intro M w0 v0 v1 hM hv0 hv1
 refine Q5 (N:=27) Tryz.func30 rfl rfl rfl hM (show EntsA M w0 [v0,v1] [Ez 0 (Qd A),Ez 1 (Qg A)]from⟨⟨rfl,_,rfl,hv0⟩,⟨rfl,_,rfl,hv1⟩,trivial⟩) fun a hI=>?_
 refine Qo hI [Ec 0 4 (pB false)] [0] (.kk .z) ?_ (.kkk .z) fun a w hI=>?_
 ·exact⟨Qc (.const _) (.here 2 rfl),trivial⟩
 refine wp_seq ?_
 refine Qo hI [Ec 0 6 (Qd A),Ec 1 7 (pI (A.length:Int)),Ec 2 8 (Qg A),Ec 3 9 (pI (A.length:Int)),Ec 4 10 (pB false)] [0,1,3,7,15] (.kkk .z) ?_ (.kkkd (.dddk .z)) fun a w hI=>?_
 ·exact⟨Qa (.tp 0 rfl) (.here 3 rfl),Q4 (.tp 3 rfl) (Xo).under (.here 4 rfl),Qa (.tp 1 rfl) (.here 5 rfl),Q4 (.tp 5 rfl) (Zm).under (.here 6 rfl),Qk (v:=.bool (((A.length:Int) != (A.length:Int)))) (.tp 4 rfl) (.tp 6 rfl) (fun _=>rfl) (.at_ 7 _ _ rfl (Y7 (bne_self_eq_false _))),trivial⟩
 refine Yk hI 3 rfl ?_
 refine wp_skip ?_
 refine Qf ?_
 refine wp_seq ?_
 refine Qo hI [Ec 0 11 (Qd A),Ec 1 12 (pI (A.length:Int)),Ec 2 13 (pI 0)] [0,1,3] (.kkkk .z) ?_ (.kkkd (.dkk .z)) fun a w hI=>?_
 ·exact⟨Qa (.tp 0 rfl) (.here 4 rfl),Q4 (.tp 4 rfl) (Xo).under (.here 5 rfl),Qa (.const _) (.here 6 rfl),trivial⟩
 refine wp_block ?_
 refine Xz (fun(k:Nat) a w=>(k≤A.length)∧Inv ⟨27,w0,M,fun _=>False⟩ [] [] [Ez 0 (Qd A),Ez 1 (Qg A),Ez 12 (pI (A.length:Int)),Ez 13 (pI (k:Int))] Qi a w) (fun(k:Nat)=>A.length-k) (0) ⟨Nat.zero_le _,(hI.conv trivial ⟨Qp 0 rfl,Qp 1 rfl,Qp 3 rfl,⟨rfl,rfl,4,_,rfl,(Xc (by omega))⟩,trivial⟩)⟩ ?_
 intro k a w hIk
 obtain⟨hp,hI⟩:=hIk
 refine Qo hI [Ec 0 14 (pB (decide ((k:Int)<(A.length:Int))))] [0] (.kkkk .z) ?_ (.kkkk (.k .z)) fun a w hI=>?_
 ·exact⟨Qk (v:=.bool (decide ((k:Int)<(A.length:Int)))) (.tp 3 rfl) (.tp 2 rfl) (fun _=>rfl) (.here 4 rfl),trivial⟩
 refine wp_seq ?_
 refine Xm hI 4 rfl (fun ht=>?_) (fun ht=>?_)
 ·have t1:=of_decide_eq_true ht
  refine wp_skip ?_
  refine Qf ?_
  refine wp_seq ?_
  refine wp_block ?_
  refine Qo hI [Ec 0 15 (pI (k:Int)),Ec 1 5 (pI (k:Int))] [0,1] (.kkkk (.k .z)) ?_ (.kkkk (.ddk .z)) fun a w hI=>?_
  ·exact⟨Qa (.tp 3 rfl) (.here 5 rfl),Qc (.tp 5 rfl) (.here 6 rfl),trivial⟩
  refine seq_D0 hI [Ec 0 16 (Qd A),Ec 1 17 (pI (k:Int)),Ec 2 18 (Ye 3 true (Qq (A.getD k 0))),Ec 3 19 (Qq (A.getD k 0)),Ec 4 20 (Qg A),Ec 5 21 (pI (k:Int)),Ec 6 22 (Ye 3 true (Qz (A.getD k 0))),Ec 7 23 (Qz (A.getD k 0)),Ec 8 24 (pB true),Ec 9 25 (pB false)] [0,0,3,7,0,0,48,112,255,511] (.kkkk (.k .z)) ?_ (.kkkk (.d8 (.ddk .z))) fun a w hI=>?_
  ·exact⟨Qa (.tp 0 rfl) (.here 5 rfl),Qa (.tp 4 rfl) (.here 6 rfl),Qw (.tp 5 rfl) (.tp 6 rfl) Xo (.at_ 7 _ _ rfl (by rw[Int.toNat_natCast]; exact fun _ _ h=>h)),Q7 (.tp 7 rfl) Q8 (Yb _) (.here 8 rfl),Qa (.tp 1 rfl) (.here 9 rfl),Qa (.tp 4 rfl) (.here 10 rfl),Qw (.tp 9 rfl) (.tp 10 rfl) Zm (.at_ 11 _ _ rfl (by rw[Int.toNat_natCast]; exact fun _ _ h=>h)),Q7 (.tp 11 rfl) Yz (Yn _) (.here 12 rfl),Yi (fun _ _=>by kernel_rfl) (Zc _) (.tp 8 rfl) (.tp 12 rfl) (.here 13 rfl) (c_is (hb k) hj rfl),K9 (.tp 13 rfl) (.here 14 rfl),trivial⟩
  refine Yk hI 4 rfl ?_
  refine wp_skip ?_
  refine Yf ?_
  refine Qf ?_
  refine sem_T0 hI [Ec 0 26 (pI ((k:Int)+(1:Int))),Ec 1 13 (pI ((k:Int)+(1:Int)))] [0,1] (.kkk (.t 1 (.k .z))) ?_ (.kkkd (.ddk .z)) fun a w hI=>?_
  ·exact⟨Qk (v:=.int .i64 (IntKind.i64.wrap ((k:Int)+(1:Int)))) (.tp 3 rfl) (.const _) (fun _=>rfl) (.at_ 5 _ _ rfl (X8 (by omega))),Qa (.tp 5 rfl) (.here 6 rfl),trivial⟩
  refine Qf ?_
  exact⟨k+1,⟨(show k+1≤A.length by omega),(hI.conv trivial ⟨Qp 0 rfl,Qp 1 rfl,Qp 2 rfl,⟨rfl,rfl,3,_,rfl,(Xc (by omega))⟩,trivial⟩)⟩,(show A.length-(k+1)<A.length-k by omega)⟩
 ·have t2:=of_decide_eq_false ht
  refine wp_exit ?_
  refine Qy ?_
  refine Qy ?_
  refine Xv ?_
  refine Qf ?_
  refine Qo hI [Ec 0 4 (pB true)] [0] (.kkkk (.k .z)) ?_ (.dddd (.dk .z)) fun a w hI=>?_
  ·exact⟨Qc (.const _) (.here 5 rfl),trivial⟩
  refine wp_ret ?_
  exact Zu hI rfl (.tmp 0 rfl)
theorem c_IsMatrix {A:List (List Rat)} {j:Nat} (hA:A.length≤1000000∧∀i,i<A.length→(A.getD i []).length≤1000000) (hb:∀i k,BdR j ((A.getD i []).getD k 0)) (hj:j≤100000000):∀(M:Nat→Nat→Prop) (w:World) (v0 v1:Value),Mid M w→Box M (fun w=>(Qr Qd A) w v0) w→Box M (fun w=>(Qr Qg A) w v1) w→Calls Tryz.prog 18 #[v0,v1] w (RetB M (pB true) w):=by
 intro M w0 v0 v1 hM hv0 hv1
 refine Q5 (N:=27) Tryz.func18 rfl rfl rfl hM (show EntsA M w0 [v0,v1] [Ez 0 (Qr Qd A),Ez 1 (Qr Qg A)]from⟨⟨rfl,_,rfl,hv0⟩,⟨rfl,_,rfl,hv1⟩,trivial⟩) fun a hI=>?_
 refine Qo hI [Ec 0 4 (pB false)] [0] (.kk .z) ?_ (.kkk .z) fun a w hI=>?_
 ·exact⟨Qc (.const _) (.here 2 rfl),trivial⟩
 refine wp_seq ?_
 refine Qo hI [Ec 0 6 (Qr Qd A),Ec 1 7 (pI (A.length:Int)),Ec 2 8 (Qr Qg A),Ec 3 9 (pI (A.length:Int)),Ec 4 10 (pB false)] [0,1,3,7,15] (.kkk .z) ?_ (.kkkd (.dddk .z)) fun a w hI=>?_
 ·exact⟨Qa (.tp 0 rfl) (.here 3 rfl),Q4 (.tp 3 rfl) (Xb).under (.here 4 rfl),Qa (.tp 1 rfl) (.here 5 rfl),Q4 (.tp 5 rfl) (Xr).under (.here 6 rfl),Qk (v:=.bool (((A.length:Int) != (A.length:Int)))) (.tp 4 rfl) (.tp 6 rfl) (fun _=>rfl) (.at_ 7 _ _ rfl (Y7 (bne_self_eq_false _))),trivial⟩
 refine Yk hI 3 rfl ?_
 refine wp_skip ?_
 refine Qf ?_
 refine wp_seq ?_
 refine Qo hI [Ec 0 11 (Qr Qd A),Ec 1 12 (pI (A.length:Int)),Ec 2 13 (pI 0)] [0,1,3] (.kkkk .z) ?_ (.kkkd (.dkk .z)) fun a w hI=>?_
 ·exact⟨Qa (.tp 0 rfl) (.here 4 rfl),Q4 (.tp 4 rfl) (Xb).under (.here 5 rfl),Qa (.const _) (.here 6 rfl),trivial⟩
 refine wp_block ?_
 refine Xz (fun(k:Nat) a w=>(k≤A.length)∧Inv ⟨27,w0,M,fun _=>False⟩ [] [] [Ez 0 (Qr Qd A),Ez 1 (Qr Qg A),Ez 12 (pI (A.length:Int)),Ez 13 (pI (k:Int))] Qi a w) (fun(k:Nat)=>A.length-k) (0) ⟨Nat.zero_le _,(hI.conv trivial ⟨Qp 0 rfl,Qp 1 rfl,Qp 3 rfl,⟨rfl,rfl,4,_,rfl,(Xc (by omega))⟩,trivial⟩)⟩ ?_
 intro k a w hIk
 obtain⟨hp,hI⟩:=hIk
 refine Qo hI [Ec 0 14 (pB (decide ((k:Int)<(A.length:Int))))] [0] (.kkkk .z) ?_ (.kkkk (.k .z)) fun a w hI=>?_
 ·exact⟨Qk (v:=.bool (decide ((k:Int)<(A.length:Int)))) (.tp 3 rfl) (.tp 2 rfl) (fun _=>rfl) (.here 4 rfl),trivial⟩
 refine wp_seq ?_
 refine Xm hI 4 rfl (fun ht=>?_) (fun ht=>?_)
 ·have t1:=of_decide_eq_true ht
  refine wp_skip ?_
  refine Qf ?_
  refine wp_seq ?_
  refine wp_block ?_
  refine Qo hI [Ec 0 15 (pI (k:Int)),Ec 1 5 (pI (k:Int))] [0,1] (.kkkk (.k .z)) ?_ (.kkkk (.ddk .z)) fun a w hI=>?_
  ·exact⟨Qa (.tp 3 rfl) (.here 5 rfl),Qc (.tp 5 rfl) (.here 6 rfl),trivial⟩
  refine seq_D0 hI [Ec 0 16 (Qr Qd A),Ec 1 17 (pI (k:Int)),Ec 2 18 (Ye 1 false (Qd (A.getD k []))),Ec 3 19 (Qd (A.getD k [])),Ec 4 20 (Qr Qg A),Ec 5 21 (pI (k:Int)),Ec 6 22 (Ye 1 false (Qg (A.getD k []))),Ec 7 23 (Qg (A.getD k [])),Ec 8 24 (pB true),Ec 9 25 (pB false)] [0,0,3,7,0,0,48,112,255,511] (.kkkk (.k .z)) ?_ (.kkkk (.d8 (.ddk .z))) fun a w hI=>?_
  ·exact⟨Qa (.tp 0 rfl) (.here 5 rfl),Qa (.tp 4 rfl) (.here 6 rfl),Qw (.tp 5 rfl) (.tp 6 rfl) Xb (.at_ 7 _ _ rfl (by rw[Int.toNat_natCast]; exact fun _ _ h=>h)),Q7 (.tp 7 rfl) X6 ((Y6 _)) (.here 8 rfl),Qa (.tp 1 rfl) (.here 9 rfl),Qa (.tp 4 rfl) (.here 10 rfl),Qw (.tp 9 rfl) (.tp 10 rfl) Xr (.at_ 11 _ _ rfl (by rw[Int.toNat_natCast]; exact fun _ _ h=>h)),Q7 (.tp 11 rfl) J5 ((Zp _)) (.here 12 rfl),Kk (fun _ _=>by kernel_rfl) (.tp 8 rfl) (.tp 12 rfl) (.here 13 rfl) (c_Are (hA.2 k (by omega)) (hb k) hj),K9 (.tp 13 rfl) (.here 14 rfl),trivial⟩
  refine Yk hI 4 rfl ?_
  refine wp_skip ?_
  refine Yf ?_
  refine Qf ?_
  refine sem_T0 hI [Ec 0 26 (pI ((k:Int)+(1:Int))),Ec 1 13 (pI ((k:Int)+(1:Int)))] [0,1] (.kkk (.t 1 (.k .z))) ?_ (.kkkd (.ddk .z)) fun a w hI=>?_
  ·exact⟨Qk (v:=.int .i64 (IntKind.i64.wrap ((k:Int)+(1:Int)))) (.tp 3 rfl) (.const _) (fun _=>rfl) (.at_ 5 _ _ rfl (X8 (by omega))),Qa (.tp 5 rfl) (.here 6 rfl),trivial⟩
  refine Qf ?_
  exact⟨k+1,⟨(show k+1≤A.length by omega),(hI.conv trivial ⟨Qp 0 rfl,Qp 1 rfl,Qp 2 rfl,⟨rfl,rfl,3,_,rfl,(Xc (by omega))⟩,trivial⟩)⟩,(show A.length-(k+1)<A.length-k by omega)⟩
 ·have t2:=of_decide_eq_false ht
  refine wp_exit ?_
  refine Qy ?_
  refine Qy ?_
  refine Xv ?_
  refine Qf ?_
  refine Qo hI [Ec 0 4 (pB true)] [0] (.kkkk (.k .z)) ?_ (.dddd (.dk .z)) fun a w hI=>?_
  ·exact⟨Qc (.const _) (.here 5 rfl),trivial⟩
  refine wp_ret ?_
  exact Zu hI rfl (.tmp 0 rfl)
end Wx
