import Derived.Test.YtpiniclogfefjaaGreatJMatrices36
import Derived.Test.YtpiniclogfefjaaGreatJMatrices39
namespace Wx
set_option maxRecDepth 100000
open Go Go.RowKit Go.Proofs
set_option linter.unusedVariables false

theorem c_light {L:List FD} (hL:L.length≤9223372036854775807):∀(M:Nat→Nat→Prop) (w:World) (v0:Value),Mid M w→Box M (fun w=>(Qd 2 true L.length (fun i=>Xg (L.getD i Qx).1 (L.getD i Qx).2.1)) w v0) w→Calls Tryz.prog 12 #[v0] w (RetB M (pB (Zf L)) w):=by
  intro M w0 v0 hM hv0
  refine Q0 (N:=25) Tryz.func12 rfl rfl rfl hM (show EntsA M w0 [v0] [⟨none,none,0,Qd 2 true L.length (fun i=>Xg (L.getD i Qx).1 (L.getD i Qx).2.1)⟩]from⟨⟨rfl,_,rfl,hv0⟩,trivial⟩) fun a hI=>?_
  refine Qe hI [] [] [⟨some 0,none,2,pB false⟩] .z (.k .z) rfl [0] (by kernel_rfl) ?_ .z (.kk .z) fun a w hI=>?_
  · exact⟨Qc (.const _) (.here 1 rfl),trivial⟩
  refine wp_seq ?_
  refine Qe hI [] [] [⟨some 0,none,5,Qd 2 true L.length (fun i=>Xg (L.getD i Qx).1 (L.getD i Qx).2.1)⟩,⟨some 1,none,6,pI (L.length:Int)⟩,⟨some 2,none,7,pI 0⟩] .z (.kk .z) rfl [0,1,3] (by kernel_rfl) ?_ .z (.dkkk (.k .z)) fun a w hI=>?_
  · exact⟨Qa (.tmp 0 rfl rfl) (.here 2 rfl),Qz (.tmp 2 rfl rfl) (Wb).under (.here 3 rfl),Qa (.const _) (.here 4 rfl),trivial⟩
  refine wp_block ?_
  refine Xw (fun(k:Nat) a w=>(k≤L.length∧∀q,q<k→lightE (L.getD q Qx)=true)∧Inv ⟨25,w0,M,fun _=>False⟩ [] [] [⟨none,none,5,Qd 2 true L.length (fun i=>Xg (L.getD i Qx).1 (L.getD i Qx).2.1)⟩,⟨none,none,6,pI (L.length:Int)⟩,⟨none,none,7,pI (k:Int)⟩] Ql a w) (fun(k:Nat)=>L.length-k) (0) ⟨⟨Nat.zero_le _,fun q hq=>by omega⟩,(hI.conv trivial ⟨⟨rfl,rfl,1,_,rfl,fun _ _ h=>h⟩,⟨rfl,rfl,2,_,rfl,fun _ _ h=>h⟩,⟨rfl,rfl,3,_,rfl,(Q9 (by omega))⟩,trivial⟩)⟩ ?_
  intro k a w hIk
  obtain⟨hp,hI⟩:=hIk
  refine Qe hI [] [] [⟨some 0,none,8,pB (decide ((k:Int)<(L.length:Int)))⟩] .z (.kkk .z) rfl [0] (by kernel_rfl) ?_ .z (.kkkk .z) fun a w hI=>?_
  · exact⟨Qk (v:=.bool (decide ((k:Int)<(L.length:Int)))) (.tmp 2 rfl rfl) (.tmp 1 rfl rfl) (fun _=>rfl) (.here 3 rfl),trivial⟩
  refine wp_seq ?_
  refine Xi hI 3 rfl (fun ht=>?_) (fun ht=>?_)
  · have t1:=of_decide_eq_true ht
    refine wp_skip ?_
    refine Qh ?_
    refine wp_seq ?_
    refine wp_block ?_
    refine Qe hI [⟨4,4,some 2,none,.ptr,82,2,true,pv (Xg 0 0),[(3,pv (Xg ((L.getD k Qx).1) ((L.getD k Qx).2.1)))]⟩] [] [⟨some 0,none,9,Yb 2 true (Xg ((L.getD k Qx).1) ((L.getD k Qx).2.1))⟩,⟨some 1,none,10,Xg ((L.getD k Qx).1) ((L.getD k Qx).2.1)⟩] .z (.kkkk .z) rfl [0,1,3,7] (by kernel_rfl) ?_ (.s .o .z) (.kkkd (.dd .z)) fun a w hI=>?_
    · exact⟨Qt (.tmp 0 rfl rfl) (.tmp 2 rfl rfl) Wb (by omega) (by omega) (by kernel_rfl) (.at_ 4 _ _ rfl (by rw[Int.toNat_natCast]; exact fun _ _ h=>h)),Q5 (.tmp 4 rfl rfl) Qb0 (Qdk _ _) (.here 5 rfl),Yu 0 rfl rfl (by kernel_rfl) (by kernel_rfl) rfl rfl rfl zv_Frac rfl rfl (by simp[Yr]) rfl (fun w=>pFrac_of 0 0 w),Xx 0 rfl rfl rfl rfl 0 rfl (by kernel_rfl) (by kernel_rfl) Qb0 (.tmp 5 rfl rfl) (Qdk _ _),trivial⟩
    refine Qe hI [] [⟨some 0,11,4,0,True⟩,⟨some 4,15,4,0,(decide (((L.getD k Qx).1)>(16777216:Int)))=false⟩,⟨some 9,20,4,1,((decide (((L.getD k Qx).1)>(16777216:Int)))||(decide (((L.getD k Qx).1)<(-16777216:Int))))=false⟩] [⟨some 1,none,12,pI ((L.getD k Qx).1)⟩,⟨some 2,none,13,pB (decide (((L.getD k Qx).1)>(16777216:Int)))⟩,⟨some 3,none,14,pB (decide (((L.getD k Qx).1)>(16777216:Int)))⟩,⟨some 5,none,16,X2 ((decide (((L.getD k Qx).1)>(16777216:Int)))=false) (pI ((L.getD k Qx).1))⟩,⟨some 6,none,17,X2 ((decide (((L.getD k Qx).1)>(16777216:Int)))=false) (pB (decide (((L.getD k Qx).1)<(-16777216:Int))))⟩,⟨some 7,none,18,pB ((decide (((L.getD k Qx).1)>(16777216:Int)))||(decide (((L.getD k Qx).1)<(-16777216:Int))))⟩,⟨some 8,none,19,pB ((decide (((L.getD k Qx).1)>(16777216:Int)))||(decide (((L.getD k Qx).1)<(-16777216:Int))))⟩,⟨some 10,none,21,X2 (((decide (((L.getD k Qx).1)>(16777216:Int)))||(decide (((L.getD k Qx).1)<(-16777216:Int))))=false) (pI ((L.getD k Qx).2.1))⟩,⟨some 11,none,22,X2 (((decide (((L.getD k Qx).1)>(16777216:Int)))||(decide (((L.getD k Qx).1)<(-16777216:Int))))=false) (pB (decide (((L.getD k Qx).2.1)>(16777216:Int))))⟩,⟨some 12,none,23,pB (((decide (((L.getD k Qx).1)>(16777216:Int)))||(decide (((L.getD k Qx).1)<(-16777216:Int))))||(decide (((L.getD k Qx).2.1)>(16777216:Int))))⟩] (.k .z) (.kkk .z) rfl [0,1,3,7,15,31,63,127,255,511,1023,2047,4095] (by kernel_rfl) ?_ (.k .z) (.kkkd (.ddkk (.ddkk (.k .z)))) fun a w hI=>?_
    · exact⟨Zq 0 rfl rfl rfl 0 rfl rfl rfl rfl (.inl ⟨rfl,rfl⟩) rfl (by kernel_rfl) (fun b w=>fa_Frac_0 b 0 w),Zg 0 rfl 0 rfl rfl rfl rfl rfl trivial rfl rfl (by kernel_rfl) ty_int64 rfl rfl (J0 (fs:=[⟨false,1,pI ((L.getD k Qx).1)⟩,⟨false,1,pI ((L.getD k Qx).2.1)⟩]) 0 (f:=⟨false,1,pI ((L.getD k Qx).1)⟩) rfl (off:=0) rfl) (.here 3 rfl),Qk (v:=.bool (decide (((L.getD k Qx).1)>(16777216:Int)))) (.tmp 3 rfl rfl) (.const _) (fun _=>rfl) (.here 4 rfl),Qa (.tmp 4 rfl rfl) (.here 5 rfl),Xh 5 rfl rfl (fun hc=>Zq 0 rfl rfl rfl 1 rfl rfl rfl rfl (.inl ⟨rfl,rfl⟩) rfl (by kernel_rfl) (fun b w=>fa_Frac_0 b 0 w)) (by kernel_rfl) (fun hc=>.at_ 1 rfl rfl rfl hc) (fun hc=>.none (by kernel_rfl)),Xh 5 rfl rfl (fun hc=>Zg 0 rfl 1 rfl rfl rfl rfl rfl hc rfl rfl (by kernel_rfl) ty_int64 rfl rfl (J0 (fs:=[⟨false,1,pI ((L.getD k Qx).1)⟩,⟨false,1,pI ((L.getD k Qx).2.1)⟩]) 0 (f:=⟨false,1,pI ((L.getD k Qx).1)⟩) rfl (off:=0) rfl) (.sel hc 6 rfl)) (by kernel_rfl) (fun _=>.none (by kernel_rfl)) (fun hc=>.sel_no hc 6 rfl),Xh 5 rfl rfl (fun hc=>Qk (v:=.bool (decide (((L.getD k Qx).1)<(-16777216:Int)))) (.sel (.tmp 6 rfl rfl) hc) (.const _) (fun _=>rfl) (.sel hc 7 rfl)) (by kernel_rfl) (fun _=>.none (by kernel_rfl)) (fun hc=>.sel_no hc 7 rfl),Yh (.tmp 5 rfl rfl) (fun h=>.imp (.const _) fun _ _ e=>by rw[h]; exact e) (fun h=>.imp (.sel (.tmp 7 rfl rfl) (h)) fun _ _ e=>by rw[h]; exact e) (.here 8 rfl),Qa (.tmp 8 rfl rfl) (.here 9 rfl),Xh 9 rfl rfl (fun hc=>Zq 0 rfl rfl rfl 2 rfl rfl rfl rfl (.inl ⟨rfl,rfl⟩) rfl (by kernel_rfl) (fun b w=>fa_Frac_1 b 0 w)) (by kernel_rfl) (fun hc=>.at_ 2 rfl rfl rfl hc) (fun hc=>.none (by kernel_rfl)),Xh 9 rfl rfl (fun hc=>Zg 0 rfl 2 rfl rfl rfl rfl rfl hc rfl rfl (by kernel_rfl) ty_int64 rfl rfl (J0 (fs:=[⟨false,1,pI ((L.getD k Qx).1)⟩,⟨false,1,pI ((L.getD k Qx).2.1)⟩]) 1 (f:=⟨false,1,pI ((L.getD k Qx).2.1)⟩) rfl (off:=1) rfl) (.sel hc 10 rfl)) (by kernel_rfl) (fun _=>.none (by kernel_rfl)) (fun hc=>.sel_no hc 10 rfl),Xh 9 rfl rfl (fun hc=>Qk (v:=.bool (decide (((L.getD k Qx).2.1)>(16777216:Int)))) (.sel (.tmp 10 rfl rfl) hc) (.const _) (fun _=>rfl) (.sel hc 11 rfl)) (by kernel_rfl) (fun _=>.none (by kernel_rfl)) (fun hc=>.sel_no hc 11 rfl),Yh (.tmp 9 rfl rfl) (fun h=>.imp (.const _) fun _ _ e=>by rw[h]; exact e) (fun h=>.imp (.sel (.tmp 11 rfl rfl) (h)) fun _ _ e=>by rw[h]; exact e) (.here 12 rfl),trivial⟩
    refine Xi hI 7 rfl (fun ht=>?_) (fun ht=>?_)
    · have t2:=ht
      refine Qe hI [] [] [⟨some 0,none,2,pB false⟩] (.k .z) (.k8 .z) rfl [0] (by kernel_rfl) ?_ (.k .z) (.kkkk (.kkkd (.k .z))) fun a w hI=>?_
      · exact⟨Qc (.const _) (.here 8 rfl),trivial⟩
      refine wp_ret ?_
      refine Jc ?_
      refine Xd ?_
      refine Xd ?_
      refine Jc ?_
      refine Xd ?_
      exact Zr hI rfl (.imp (.tmp 7 rfl) (Y4 ((show false=Zf L from(all_false (i:=k) (by omega) (by unfold lightE; rw[t2]; rfl)).symm))))
    · have t3:=ht
      refine wp_skip ?_
      refine Yd ?_
      refine Qh ?_
      refine Y0 hI [] [] [⟨some 0,none,24,pI ((k:Int)+(1:Int))⟩,⟨some 1,none,7,pI ((k:Int)+(1:Int))⟩] (.k .z) (.kk (.t 1 (.kkkk (.k .z)))) rfl [0,1] (by kernel_rfl) ?_ (.k .z) (.kkdk (.kkkd (.dk .z))) fun a w hI=>?_
      · exact⟨Qk (v:=.int .i64 (IntKind.i64.wrap ((k:Int)+(1:Int)))) (.tmp 2 rfl rfl) (.const _) (fun _=>rfl) (.at_ 8 _ _ rfl (X3 (by omega))),Qa (.tmp 8 rfl rfl) (.here 9 rfl),trivial⟩
      refine Qh ?_
      exact⟨k+1,⟨⟨by omega,fun q hq=>by rcases Nat.lt_or_ge q k with h|h; exact hp.2 q h; rw[show q=k by omega]; exact(by unfold lightE; rw[t3]; rfl)⟩,(hI.conv trivial ⟨⟨rfl,rfl,0,_,rfl,fun _ _ h=>h⟩,⟨rfl,rfl,1,_,rfl,fun _ _ h=>h⟩,⟨rfl,rfl,6,_,rfl,(Q9 (by omega))⟩,trivial⟩)⟩,(show L.length-(k+1)<L.length-k by omega)⟩
  · have t4:=of_decide_eq_false ht
    refine wp_exit ?_
    refine Qv ?_
    refine Qv ?_
    refine Xt ?_
    refine Qh ?_
    refine Qe hI [] [] [⟨some 0,none,2,pB true⟩] .z (.kkkk .z) rfl [0] (by kernel_rfl) ?_ .z (.dddd (.k .z)) fun a w hI=>?_
    · exact⟨Qc (.const _) (.here 4 rfl),trivial⟩
    refine wp_ret ?_
    exact Zr hI rfl (.imp (.tmp 0 rfl) (Y4 ((show true=Zf L from(all_true fun i hi=>hp.2 i (by omega)).symm))))
theorem small_yes {LL:List (List FD)} (h:sideB LL.length=false) (h2:∀i,i<LL.length→Qcm (LL.getD i [])=true):true=Q6 LL:=by
  unfold Q6
  rw[h,all_true h2]
  rfl
theorem small_no1 {LL:List (List FD)} (h:sideB LL.length=true):false=Q6 LL:=by
  unfold Q6
  rw[h]
  rfl
theorem small_no2 {LL:List (List FD)} {i:Nat} (hi:i<LL.length) (h:Qcm (LL.getD i [])=false):false=Q6 LL:=by
  unfold Q6
  rw[all_false hi h,Bool.and_false]
theorem c_small {LL:List (List FD)} (hLL:LL.length≤9223372036854775807) (hLL2:∀i,i<LL.length→(LL.getD i []).length≤9223372036854775807):∀(M:Nat→Nat→Prop) (w:World) (v0:Value),Mid M w→Box M (fun w=>(Qd 1 false LL.length (fun i=>Qd 2 true (LL.getD i []).length (fun k=>Xg ((LL.getD i []).getD k Qx).1 ((LL.getD i []).getD k Qx).2.1))) w v0) w→Calls Tryz.prog 6 #[v0] w (RetB M (pB (Q6 LL)) w):=by
  intro M w0 v0 hM hv0
  refine Q0 (N:=43) Tryz.func6 rfl rfl rfl hM (show EntsA M w0 [v0] [⟨none,none,0,Qd 1 false LL.length (fun i=>Qd 2 true (LL.getD i []).length (fun k=>Xg ((LL.getD i []).getD k Qx).1 ((LL.getD i []).getD k Qx).2.1))⟩]from⟨⟨rfl,_,rfl,hv0⟩,trivial⟩) fun a hI=>?_
  refine Qe hI [] [] [⟨some 0,none,2,pB false⟩] .z (.k .z) rfl [0] (by kernel_rfl) ?_ .z (.kk .z) fun a w hI=>?_
  · exact⟨Qc (.const _) (.here 1 rfl),trivial⟩
  refine wp_seq ?_
  refine Qe hI [] [] [⟨some 0,none,5,Qd 1 false LL.length (fun i=>Qd 2 true (LL.getD i []).length (fun k=>Xg ((LL.getD i []).getD k Qx).1 ((LL.getD i []).getD k Qx).2.1))⟩,⟨some 1,none,6,pI (LL.length:Int)⟩,⟨some 2,none,7,pB (decide ((LL.length:Int)>(4:Int)))⟩,⟨some 3,none,8,pB (decide ((LL.length:Int)>(4:Int)))⟩,⟨some 4,none,9,X2 ((decide ((LL.length:Int)>(4:Int)))=true) (Qd 1 false LL.length (fun i=>Qd 2 true (LL.getD i []).length (fun k=>Xg ((LL.getD i []).getD k Qx).1 ((LL.getD i []).getD k Qx).2.1)))⟩,⟨some 5,none,10,X2 ((decide ((LL.length:Int)>(4:Int)))=true) (pI (LL.length:Int))⟩,⟨some 6,none,11,X2 ((decide ((LL.length:Int)>(4:Int)))=true) (pB (decide ((LL.length:Int)≤(8:Int))))⟩,⟨some 7,none,12,pB ((decide ((LL.length:Int)>(4:Int)))&&(decide ((LL.length:Int)≤(8:Int))))⟩,⟨some 8,none,13,pB ((decide ((LL.length:Int)>(4:Int)))&&(decide ((LL.length:Int)≤(8:Int))))⟩,⟨some 9,none,14,X2 (((decide ((LL.length:Int)>(4:Int)))&&(decide ((LL.length:Int)≤(8:Int))))=false) (Qd 1 false LL.length (fun i=>Qd 2 true (LL.getD i []).length (fun k=>Xg ((LL.getD i []).getD k Qx).1 ((LL.getD i []).getD k Qx).2.1)))⟩,⟨some 10,none,15,X2 (((decide ((LL.length:Int)>(4:Int)))&&(decide ((LL.length:Int)≤(8:Int))))=false) (pI (LL.length:Int))⟩,⟨some 11,none,16,X2 (((decide ((LL.length:Int)>(4:Int)))&&(decide ((LL.length:Int)≤(8:Int))))=false) (pB (decide ((LL.length:Int)>(10:Int))))⟩,⟨some 12,none,17,pB (((decide ((LL.length:Int)>(4:Int)))&&(decide ((LL.length:Int)≤(8:Int))))||(decide ((LL.length:Int)>(10:Int))))⟩] .z (.kk .z) rfl [0,1,3,7,15,31,63,127,255,511,1023,2047,4095] (by kernel_rfl) ?_ .z (.kkdd (.d8 (.ddk .z))) fun a w hI=>?_
  · exact⟨Qa (.tmp 0 rfl rfl) (.here 2 rfl),Qz (.tmp 2 rfl rfl) (Ke).under (.here 3 rfl),Qk (v:=.bool (decide ((LL.length:Int)>(4:Int)))) (.tmp 3 rfl rfl) (.const _) (fun _=>rfl) (.here 4 rfl),Qa (.tmp 4 rfl rfl) (.here 5 rfl),Xh 5 rfl rfl (fun hc=>Qa (.tmp 0 rfl rfl) (.sel hc 6 rfl)) (by kernel_rfl) (fun _=>.none (by kernel_rfl)) (fun hc=>.sel_no hc 6 rfl),Xh 5 rfl rfl (fun hc=>Qz (.sel (.tmp 6 rfl rfl) hc) (Ke).under (.sel hc 7 rfl)) (by kernel_rfl) (fun _=>.none (by kernel_rfl)) (fun hc=>.sel_no hc 7 rfl),Xh 5 rfl rfl (fun hc=>Qk (v:=.bool (decide ((LL.length:Int)≤(8:Int)))) (.sel (.tmp 7 rfl rfl) hc) (.const _) (fun _=>rfl) (.sel hc 8 rfl)) (by kernel_rfl) (fun _=>.none (by kernel_rfl)) (fun hc=>.sel_no hc 8 rfl),Yh (.tmp 5 rfl rfl) (fun h=>.imp (.sel (.tmp 8 rfl rfl) (h)) fun _ _ e=>by rw[h]; exact e) (fun h=>.imp (.const _) fun _ _ e=>by rw[h]; exact e) (.here 9 rfl),Qa (.tmp 9 rfl rfl) (.here 10 rfl),Xh 10 rfl rfl (fun hc=>Qa (.tmp 0 rfl rfl) (.sel hc 11 rfl)) (by kernel_rfl) (fun _=>.none (by kernel_rfl)) (fun hc=>.sel_no hc 11 rfl),Xh 10 rfl rfl (fun hc=>Qz (.sel (.tmp 11 rfl rfl) hc) (Ke).under (.sel hc 12 rfl)) (by kernel_rfl) (fun _=>.none (by kernel_rfl)) (fun hc=>.sel_no hc 12 rfl),Xh 10 rfl rfl (fun hc=>Qk (v:=.bool (decide ((LL.length:Int)>(10:Int)))) (.sel (.tmp 12 rfl rfl) hc) (.const _) (fun _=>rfl) (.sel hc 13 rfl)) (by kernel_rfl) (fun _=>.none (by kernel_rfl)) (fun hc=>.sel_no hc 13 rfl),Yh (.tmp 10 rfl rfl) (fun h=>.imp (.const _) fun _ _ e=>by rw[h]; exact e) (fun h=>.imp (.sel (.tmp 13 rfl rfl) (h)) fun _ _ e=>by rw[h]; exact e) (.here 14 rfl),trivial⟩
  refine Xi hI 2 rfl (fun ht=>?_) (fun ht=>?_)
  · have t1:=ht
    refine Qe hI [] [] [⟨some 0,none,2,pB false⟩] .z (.k (.t 0 (.k .z))) rfl [0] (by kernel_rfl) ?_ .z (.kddk .z) fun a w hI=>?_
    · exact⟨Qc (.const _) (.here 3 rfl),trivial⟩
    refine wp_ret ?_
    refine Xd ?_
    exact Zr hI rfl (.imp (.tmp 1 rfl) (Y4 (small_no1 t1)))
  · have t2:=ht
    refine wp_skip ?_
    refine Qh ?_
    refine wp_seq ?_
    refine Qe hI [] [] [⟨some 0,none,18,Qd 1 false LL.length (fun i=>Qd 2 true (LL.getD i []).length (fun k=>Xg ((LL.getD i []).getD k Qx).1 ((LL.getD i []).getD k Qx).2.1))⟩,⟨some 1,none,19,pI (LL.length:Int)⟩,⟨some 2,none,20,pI 0⟩] .z (.kkk .z) rfl [0,1,3] (by kernel_rfl) ?_ .z (.dkdk (.kk .z)) fun a w hI=>?_
    · exact⟨Qa (.tmp 0 rfl rfl) (.here 3 rfl),Qz (.tmp 3 rfl rfl) (Ke).under (.here 4 rfl),Qa (.const _) (.here 5 rfl),trivial⟩
    refine wp_block ?_
    refine Xw (fun(k:Nat) a w=>(k≤LL.length∧∀q,q<k→Qcm (LL.getD q [])=true)∧Inv ⟨43,w0,M,fun _=>False⟩ [] [] [⟨none,none,18,Qd 1 false LL.length (fun i=>Qd 2 true (LL.getD i []).length (fun k=>Xg ((LL.getD i []).getD k Qx).1 ((LL.getD i []).getD k Qx).2.1))⟩,⟨none,none,19,pI (LL.length:Int)⟩,⟨none,none,20,pI (k:Int)⟩] Ql a w) (fun(k:Nat)=>LL.length-k) (0) ⟨⟨Nat.zero_le _,fun q hq=>by omega⟩,(hI.conv trivial ⟨⟨rfl,rfl,1,_,rfl,fun _ _ h=>h⟩,⟨rfl,rfl,2,_,rfl,fun _ _ h=>h⟩,⟨rfl,rfl,3,_,rfl,(Q9 (by omega))⟩,trivial⟩)⟩ ?_
    intro k a w hIk
    obtain⟨hp,hI⟩:=hIk
    refine Qe hI [] [] [⟨some 0,none,21,pB (decide ((k:Int)<(LL.length:Int)))⟩] .z (.kkk .z) rfl [0] (by kernel_rfl) ?_ .z (.kkkk .z) fun a w hI=>?_
    · exact⟨Qk (v:=.bool (decide ((k:Int)<(LL.length:Int)))) (.tmp 2 rfl rfl) (.tmp 1 rfl rfl) (fun _=>rfl) (.here 3 rfl),trivial⟩
    refine wp_seq ?_
    refine Xi hI 3 rfl (fun ht=>?_) (fun ht=>?_)
    · have t3:=of_decide_eq_true ht
      refine wp_skip ?_
      refine Qh ?_
      refine wp_seq ?_
      refine wp_block ?_
      refine Qe hI [] [] [⟨some 0,none,22,Yb 1 false (Qd 2 true (LL.getD k []).length (fun i=>Xg ((LL.getD k []).getD i Qx).1 ((LL.getD k []).getD i Qx).2.1))⟩,⟨some 1,none,23,Qd 2 true (LL.getD k []).length (fun i=>Xg ((LL.getD k []).getD i Qx).1 ((LL.getD k []).getD i Qx).2.1)⟩,⟨some 2,none,4,Qd 2 true (LL.getD k []).length (fun i=>Xg ((LL.getD k []).getD i Qx).1 ((LL.getD k []).getD i Qx).2.1)⟩] .z (.kkkk .z) rfl [0,1,3] (by kernel_rfl) ?_ .z (.kkkd (.ddk .z)) fun a w hI=>?_
      · exact⟨Qt (.tmp 0 rfl rfl) (.tmp 2 rfl rfl) Ke (by omega) (by omega) (by kernel_rfl) (.at_ 4 _ _ rfl (by rw[Int.toNat_natCast]; exact fun _ _ h=>h)),Q5 (.tmp 4 rfl rfl) ty_Fracs (Ww) (.here 5 rfl),Qc (.tmp 5 rfl rfl) (.here 6 rfl),trivial⟩
      refine Qe hI [] [] [⟨some 0,none,24,Qd 2 true (LL.getD k []).length (fun i=>Xg ((LL.getD k []).getD i Qx).1 ((LL.getD k []).getD i Qx).2.1)⟩,⟨some 1,none,25,pI ((LL.getD k []).length:Int)⟩,⟨some 2,none,26,pB (decide (((LL.getD k []).length:Int)>(4:Int)))⟩,⟨some 3,none,27,pB (decide (((LL.getD k []).length:Int)>(4:Int)))⟩,⟨some 4,none,28,X2 ((decide (((LL.getD k []).length:Int)>(4:Int)))=true) (Qd 2 true (LL.getD k []).length (fun i=>Xg ((LL.getD k []).getD i Qx).1 ((LL.getD k []).getD i Qx).2.1))⟩,⟨some 5,none,29,X2 ((decide (((LL.getD k []).length:Int)>(4:Int)))=true) (pI ((LL.getD k []).length:Int))⟩,⟨some 6,none,30,X2 ((decide (((LL.getD k []).length:Int)>(4:Int)))=true) (pB (decide (((LL.getD k []).length:Int)≤(8:Int))))⟩,⟨some 7,none,31,pB ((decide (((LL.getD k []).length:Int)>(4:Int)))&&(decide (((LL.getD k []).length:Int)≤(8:Int))))⟩,⟨some 8,none,32,pB ((decide (((LL.getD k []).length:Int)>(4:Int)))&&(decide (((LL.getD k []).length:Int)≤(8:Int))))⟩,⟨some 9,none,33,X2 (((decide (((LL.getD k []).length:Int)>(4:Int)))&&(decide (((LL.getD k []).length:Int)≤(8:Int))))=false) (Qd 2 true (LL.getD k []).length (fun i=>Xg ((LL.getD k []).getD i Qx).1 ((LL.getD k []).getD i Qx).2.1))⟩,⟨some 10,none,34,X2 (((decide (((LL.getD k []).length:Int)>(4:Int)))&&(decide (((LL.getD k []).length:Int)≤(8:Int))))=false) (pI ((LL.getD k []).length:Int))⟩,⟨some 11,none,35,X2 (((decide (((LL.getD k []).length:Int)>(4:Int)))&&(decide (((LL.getD k []).length:Int)≤(8:Int))))=false) (pB (decide (((LL.getD k []).length:Int)>(10:Int))))⟩,⟨some 12,none,36,pB (((decide (((LL.getD k []).length:Int)>(4:Int)))&&(decide (((LL.getD k []).length:Int)≤(8:Int))))||(decide (((LL.getD k []).length:Int)>(10:Int))))⟩,⟨some 13,none,37,pB (((decide (((LL.getD k []).length:Int)>(4:Int)))&&(decide (((LL.getD k []).length:Int)≤(8:Int))))||(decide (((LL.getD k []).length:Int)>(10:Int))))⟩,⟨some 14,none,38,X2 ((((decide (((LL.getD k []).length:Int)>(4:Int)))&&(decide (((LL.getD k []).length:Int)≤(8:Int))))||(decide (((LL.getD k []).length:Int)>(10:Int))))=false) (Qd 2 true (LL.getD k []).length (fun i=>Xg ((LL.getD k []).getD i Qx).1 ((LL.getD k []).getD i Qx).2.1))⟩,⟨some 15,none,39,X2 ((((decide (((LL.getD k []).length:Int)>(4:Int)))&&(decide (((LL.getD k []).length:Int)≤(8:Int))))||(decide (((LL.getD k []).length:Int)>(10:Int))))=false) (pB (Zf (LL.getD k [])))⟩,⟨some 16,none,40,X2 ((((decide (((LL.getD k []).length:Int)>(4:Int)))&&(decide (((LL.getD k []).length:Int)≤(8:Int))))||(decide (((LL.getD k []).length:Int)>(10:Int))))=false) (pB (!(Zf (LL.getD k []))))⟩,⟨some 17,none,41,pB ((((decide (((LL.getD k []).length:Int)>(4:Int)))&&(decide (((LL.getD k []).length:Int)≤(8:Int))))||(decide (((LL.getD k []).length:Int)>(10:Int))))||(!(Zf (LL.getD k []))))⟩] .z (.kkkk .z) rfl [0,1,3,7,15,31,63,127,255,511,1023,2047,4095,8191,16383,32767,65535,131071] (by kernel_rfl) ?_ .z (.kkkd (.dddd (.kkkd (.dkkk (.ddkk (.kk .z)))))) fun a w hI=>?_
      · exact⟨Qa (.tmp 3 rfl rfl) (.here 4 rfl),Qz (.tmp 4 rfl rfl) (Wb).under (.here 5 rfl),Qk (v:=.bool (decide (((LL.getD k []).length:Int)>(4:Int)))) (.tmp 5 rfl rfl) (.const _) (fun _=>rfl) (.here 6 rfl),Qa (.tmp 6 rfl rfl) (.here 7 rfl),Xh 7 rfl rfl (fun hc=>Qa (.tmp 3 rfl rfl) (.sel hc 8 rfl)) (by kernel_rfl) (fun _=>.none (by kernel_rfl)) (fun hc=>.sel_no hc 8 rfl),Xh 7 rfl rfl (fun hc=>Qz (.sel (.tmp 8 rfl rfl) hc) (Wb).under (.sel hc 9 rfl)) (by kernel_rfl) (fun _=>.none (by kernel_rfl)) (fun hc=>.sel_no hc 9 rfl),Xh 7 rfl rfl (fun hc=>Qk (v:=.bool (decide (((LL.getD k []).length:Int)≤(8:Int)))) (.sel (.tmp 9 rfl rfl) hc) (.const _) (fun _=>rfl) (.sel hc 10 rfl)) (by kernel_rfl) (fun _=>.none (by kernel_rfl)) (fun hc=>.sel_no hc 10 rfl),Yh (.tmp 7 rfl rfl) (fun h=>.imp (.sel (.tmp 10 rfl rfl) (h)) fun _ _ e=>by rw[h]; exact e) (fun h=>.imp (.const _) fun _ _ e=>by rw[h]; exact e) (.here 11 rfl),Qa (.tmp 11 rfl rfl) (.here 12 rfl),Xh 12 rfl rfl (fun hc=>Qa (.tmp 3 rfl rfl) (.sel hc 13 rfl)) (by kernel_rfl) (fun _=>.none (by kernel_rfl)) (fun hc=>.sel_no hc 13 rfl),Xh 12 rfl rfl (fun hc=>Qz (.sel (.tmp 13 rfl rfl) hc) (Wb).under (.sel hc 14 rfl)) (by kernel_rfl) (fun _=>.none (by kernel_rfl)) (fun hc=>.sel_no hc 14 rfl),Xh 12 rfl rfl (fun hc=>Qk (v:=.bool (decide (((LL.getD k []).length:Int)>(10:Int)))) (.sel (.tmp 14 rfl rfl) hc) (.const _) (fun _=>rfl) (.sel hc 15 rfl)) (by kernel_rfl) (fun _=>.none (by kernel_rfl)) (fun hc=>.sel_no hc 15 rfl),Yh (.tmp 12 rfl rfl) (fun h=>.imp (.const _) fun _ _ e=>by rw[h]; exact e) (fun h=>.imp (.sel (.tmp 15 rfl rfl) (h)) fun _ _ e=>by rw[h]; exact e) (.here 16 rfl),Qa (.tmp 16 rfl rfl) (.here 17 rfl),Xh 17 rfl rfl (fun hc=>Qa (.tmp 3 rfl rfl) (.sel hc 18 rfl)) (by kernel_rfl) (fun _=>.none (by kernel_rfl)) (fun hc=>.sel_no hc 18 rfl),Xh 17 rfl rfl (fun hc=>Q3 (fun _ _=>by kernel_rfl) (.sel (.tmp 18 rfl rfl) hc) (.sel hc 19 rfl) (c_light (hLL2 k (by omega)))) (by kernel_rfl) (fun _=>.none (by kernel_rfl)) (fun hc=>.sel_no hc 19 rfl),Xh 17 rfl rfl (fun hc=>Wa (.sel (.tmp 19 rfl rfl) hc) (.sel hc 20 rfl)) (by kernel_rfl) (fun _=>.none (by kernel_rfl)) (fun hc=>.sel_no hc 20 rfl),Yh (.tmp 17 rfl rfl) (fun h=>.imp (.const _) fun _ _ e=>by rw[h]; exact e) (fun h=>.imp (.sel (.tmp 20 rfl rfl) (h)) fun _ _ e=>by rw[h]; exact e) (.here 21 rfl),trivial⟩
      refine Xi hI 12 rfl (fun ht=>?_) (fun ht=>?_)
      · have t4:=ht
        refine Qe hI [] [] [⟨some 0,none,2,pB false⟩] .z (.k8 (.kkkk (.k .z))) rfl [0] (by kernel_rfl) ?_ .z (.k8 (.kkkk (.dk .z))) fun a w hI=>?_
        · exact⟨Qc (.const _) (.here 13 rfl),trivial⟩
        refine wp_ret ?_
        refine Jc ?_
        refine Xd ?_
        refine Xd ?_
        refine Jc ?_
        refine Xd ?_
        exact Zr hI rfl (.imp (.tmp 12 rfl) (Y4 (small_no2 (i:=k) (by omega) (by unfold Qcm sideB; rw[t4]; rfl))))
      · have t5:=ht
        refine wp_skip ?_
        refine Yd ?_
        refine Qh ?_
        refine Y0 hI [] [] [⟨some 0,none,42,pI ((k:Int)+(1:Int))⟩,⟨some 1,none,20,pI ((k:Int)+(1:Int))⟩] .z (.kk (.t 1 (.k8 (.kk .z)))) rfl [0,1] (by kernel_rfl) ?_ .z (.kkdk (.k8 (.ddk .z))) fun a w hI=>?_
        · exact⟨Qk (v:=.int .i64 (IntKind.i64.wrap ((k:Int)+(1:Int)))) (.tmp 2 rfl rfl) (.const _) (fun _=>rfl) (.at_ 13 _ _ rfl (X3 (by omega))),Qa (.tmp 13 rfl rfl) (.here 14 rfl),trivial⟩
        refine Qh ?_
        exact⟨k+1,⟨⟨by omega,fun q hq=>by rcases Nat.lt_or_ge q k with h|h; exact hp.2 q h; rw[show q=k by omega]; exact(by unfold Qcm sideB; rw[t5]; rfl)⟩,(hI.conv trivial ⟨⟨rfl,rfl,0,_,rfl,fun _ _ h=>h⟩,⟨rfl,rfl,1,_,rfl,fun _ _ h=>h⟩,⟨rfl,rfl,11,_,rfl,(Q9 (by omega))⟩,trivial⟩)⟩,(show LL.length-(k+1)<LL.length-k by omega)⟩
    · have t6:=of_decide_eq_false ht
      refine wp_exit ?_
      refine Qv ?_
      refine Qv ?_
      refine Xt ?_
      refine Qh ?_
      refine Qe hI [] [] [⟨some 0,none,2,pB true⟩] .z (.kkkk .z) rfl [0] (by kernel_rfl) ?_ .z (.dddd (.k .z)) fun a w hI=>?_
      · exact⟨Qc (.const _) (.here 4 rfl),trivial⟩
      refine wp_ret ?_
      exact Zr hI rfl (.imp (.tmp 0 rfl) (Y4 (small_yes t2 (fun i hi=>hp.2 i (by omega)))))
theorem c_list {L:List FD} (hL:L.length≤1000000∧∀k,k<L.length→FdOk (L.getD k Qx)):∀(M:Nat→Nat→Prop) (w:World) (v0:Value),Mid M w→Box M (fun w=>(Qd 2 true L.length (fun i=>Xg (L.getD i Qx).1 (L.getD i Qx).2.1)) w v0) w→Calls Tryz.prog 13 #[v0] w (RetB M (Xj (Qf (Ya L)) (Qi (Ya L))) w):=by
  intro M w0 v0 hM hv0
  refine Q0 (N:=34) Tryz.func13 rfl rfl rfl hM (show EntsA M w0 [v0] [⟨none,none,0,Qd 2 true L.length (fun i=>Xg (L.getD i Qx).1 (L.getD i Qx).2.1)⟩]from⟨⟨rfl,_,rfl,hv0⟩,trivial⟩) fun a hI=>?_
  refine Qe hI [] [] [⟨some 0,none,2,Qp ((Value.slice none 0 0))⟩,⟨some 1,none,3,Qp ((Value.slice none 0 0))⟩] .z (.k .z) rfl [0,1] (by kernel_rfl) ?_ .z (.kkk .z) fun a w hI=>?_
  · exact⟨Qc (.const _) (.here 1 rfl),Qc (.const _) (.here 2 rfl),trivial⟩
  refine seq_D hI [⟨10,10,some 2,some 6,(.row L.length),38,(L.length*3),true,pv (Z0 3 true L.length (fun _=>Qo 0)),[]⟩,⟨13,13,some 5,some 7,(.row L.length),42,(L.length*3),true,pv (Z0 3 true L.length (fun _=>Xu)),[]⟩,⟨4,4,some 6,none,(.row L.length),38,(L.length*3),true,pv (Z0 3 true L.length (fun _=>Qo 0)),[]⟩,⟨5,5,some 7,none,(.row L.length),42,(L.length*3),true,pv (Z0 3 true L.length (fun _=>Xu)),[]⟩] [] [⟨some 0,none,8,Qd 2 true L.length (fun i=>Xg (L.getD i Qx).1 (L.getD i Qx).2.1)⟩,⟨some 1,none,9,pI (L.length:Int)⟩,⟨some 3,none,11,Qd 2 true L.length (fun i=>Xg (L.getD i Qx).1 (L.getD i Qx).2.1)⟩,⟨some 4,none,12,pI (L.length:Int)⟩] .z (.kkk .z) rfl [0,1,3,0,8,24,7,127] (by kernel_rfl) ?_ (.d (.d (.k (.k .z)))) (.kkkd (.ddd .z)) fun a w hI=>?_
  · exact⟨Qa (.tmp 0 rfl rfl) (.here 3 rfl),Qz (.tmp 3 rfl rfl) (Wb).under (.here 4 rfl),Vi (n:=L.length) (p0:=Qo 0) (zv:=.agg #[.bool false,.slice none 0 0,.slice none 0 0]) (z:=[.bool false,.slice none 0 0,.slice none 0 0]) 0 rfl rfl (by kernel_rfl) (by kernel_rfl) (by kernel_rfl) rfl rfl rfl rfl rfl (.tmp 4 rfl rfl) (.tmp 4 rfl rfl) (Xk).under (by kernel_rfl) rfl rfl (by omega) (by simp[Yr]) (fun w=>Yv w) (by omega),Qa (.tmp 0 rfl rfl) (.here 5 rfl),Qz (.tmp 5 rfl rfl) (Wb).under (.here 6 rfl),Vi (n:=L.length) (p0:=Xu) (zv:=.agg #[.bool false,.slice none 0 0,.slice none 0 0]) (z:=[.bool false,.slice none 0 0,.slice none 0 0]) 1 rfl rfl (by kernel_rfl) (by kernel_rfl) (by kernel_rfl) rfl rfl rfl rfl rfl (.tmp 6 rfl rfl) (.tmp 6 rfl rfl) (Zk).under (by kernel_rfl) rfl rfl (by omega) (by simp[Yr]) (fun _=>trivial) (by omega),Qag 0 rfl rfl rfl rfl rfl (by kernel_rfl) rfl 2 rfl rfl rfl rfl rfl rfl rfl rfl (by kernel_rfl) (by kernel_rfl),Qag 1 rfl rfl rfl rfl rfl (by kernel_rfl) rfl 3 rfl rfl rfl rfl rfl rfl rfl rfl (by kernel_rfl) (by kernel_rfl),trivial⟩
  refine wp_seq ?_
  refine Qe hI [] [] [⟨some 0,none,14,Qd 2 true L.length (fun i=>Xg (L.getD i Qx).1 (L.getD i Qx).2.1)⟩,⟨some 1,none,15,pI (L.length:Int)⟩,⟨some 2,none,16,pI 0⟩] (.k (.k .z)) (.kkk .z) rfl [0,1,3] (by kernel_rfl) ?_ (.k (.k .z)) (.dkkk (.kk .z)) fun a w hI=>?_
  · exact⟨Qa (.tmp 0 rfl rfl) (.here 3 rfl),Qz (.tmp 3 rfl rfl) (Wb).under (.here 4 rfl),Qa (.const _) (.here 5 rfl),trivial⟩
  refine wp_block ?_
  refine Xw (fun(k:Nat) a w=>(k≤L.length)∧Inv ⟨34,w0,M,fun _=>False⟩ [⟨4,4,none,none,(.row L.length),38,(L.length*3),true,pv (Z0 3 true L.length (J5 k (fun i=>Qo ((Ya L).getD i 0)) (Qo 0))),[]⟩,⟨5,5,none,none,(.row L.length),42,(L.length*3),true,pv (Z0 3 true L.length (J5 k (fun i=>Qw ((Ya L).getD i 0)) (Xu))),[]⟩] [] [⟨none,none,2,Qp ((Value.slice none 0 0))⟩,⟨none,none,3,Qp ((Value.slice none 0 0))⟩,⟨none,none,14,Qd 2 true L.length (fun i=>Xg (L.getD i Qx).1 (L.getD i Qx).2.1)⟩,⟨none,none,15,pI (L.length:Int)⟩,⟨none,none,16,pI (k:Int)⟩] Ql a w) (fun(k:Nat)=>L.length-k) (0) ⟨Nat.zero_le _,(hI.conv ⟨⟨0,_,_,rfl,⟨rfl,rfl,rfl⟩,rfl,fun _=>(Vn Qdd)⟩,⟨1,_,_,rfl,⟨rfl,rfl,rfl⟩,rfl,fun _=>(Vn Qdd)⟩,trivial⟩ ⟨⟨rfl,rfl,0,_,rfl,fun _ _ h=>h⟩,⟨rfl,rfl,1,_,rfl,fun _ _ h=>h⟩,⟨rfl,rfl,2,_,rfl,fun _ _ h=>h⟩,⟨rfl,rfl,3,_,rfl,fun _ _ h=>h⟩,⟨rfl,rfl,4,_,rfl,(Q9 (by omega))⟩,trivial⟩)⟩ ?_
  intro k a w hIk
  obtain⟨hp,hI⟩:=hIk
  refine Qe hI [] [] [⟨some 0,none,17,pB (decide ((k:Int)<(L.length:Int)))⟩] (.k (.k .z)) (.kkkk (.k .z)) rfl [0] (by kernel_rfl) ?_ (.k (.k .z)) (.kkkk (.kk .z)) fun a w hI=>?_
  · exact⟨Qk (v:=.bool (decide ((k:Int)<(L.length:Int)))) (.tmp 4 rfl rfl) (.tmp 3 rfl rfl) (fun _=>rfl) (.here 5 rfl),trivial⟩
  refine wp_seq ?_
  refine Xi hI 5 rfl (fun ht=>?_) (fun ht=>?_)
  · have t1:=of_decide_eq_true ht
    refine wp_skip ?_
    refine Qh ?_
    refine wp_seq ?_
    refine wp_block ?_
    refine Qe hI [⟨7,7,some 3,none,.ptr,82,2,true,pv (Xg 0 0),[(5,pv (Xg ((L.getD k Qx).1) ((L.getD k Qx).2.1)))]⟩] [] [⟨some 0,none,18,pI (k:Int)⟩,⟨some 1,none,19,Yb 2 true (Xg ((L.getD k Qx).1) ((L.getD k Qx).2.1))⟩,⟨some 2,none,20,Xg ((L.getD k Qx).1) ((L.getD k Qx).2.1)⟩,⟨some 4,none,6,pI (k:Int)⟩] (.k (.k .z)) (.kkkk (.kk .z)) rfl [0,1,3,7,15,31] (by kernel_rfl) ?_ (.k (.k (.s .o .z))) (.kkkk (.kddd (.dk .z))) fun a w hI=>?_
    · exact⟨Qa (.tmp 4 rfl rfl) (.here 6 rfl),Qt (.tmp 2 rfl rfl) (.tmp 4 rfl rfl) Wb (by omega) (by omega) (by kernel_rfl) (.at_ 7 _ _ rfl (by rw[Int.toNat_natCast]; exact fun _ _ h=>h)),Q5 (.tmp 7 rfl rfl) Qb0 (Qdk _ _) (.here 8 rfl),Yu 2 rfl rfl (by kernel_rfl) (by kernel_rfl) rfl rfl rfl zv_Frac rfl rfl (by simp[Yr]) rfl (fun w=>pFrac_of 0 0 w),Qc (.tmp 6 rfl rfl) (.here 9 rfl),Xx 2 rfl rfl rfl rfl 0 rfl (by kernel_rfl) (by kernel_rfl) Qb0 (.tmp 8 rfl rfl) (Qdk _ _),trivial⟩
    obtain⟨g1,hI⟩:=hI.openRow 0 rfl rfl rfl
    refine Qe hI [] [] [⟨some 0,none,21,Qp (.slice (some ⟨g1,0,none⟩) L.length L.length)⟩,⟨some 1,none,22,pI (k:Int)⟩,⟨some 2,none,23,Xg ((L.getD k Qx).1) ((L.getD k Qx).2.1)⟩,⟨some 3,none,24,Qo ((Ya L).getD k 0)⟩,⟨some 4,none,25,Qp (.pointer (some ⟨g1,0+((k:Int)).toNat*3,none⟩))⟩] (.u none [(5,pv (Z0 3 true L.length (setP (J5 k (fun i=>Qo ((Ya L).getD i 0)) (Qo 0)) k (Qo ((Ya L).getD k 0)))))] (.k (.k .z))) (.kkkk (.kkk .z)) rfl [0,1,3,7,15,31] (by kernel_rfl) ?_ (.s .o (.k (.k .z))) (.kkkk (.kkkd (.dddd .z))) fun a w hI=>?_
    · exact⟨Qa (.tmp 0 rfl rfl) (.here 7 rfl),Qa (.tmp 6 rfl rfl) (.here 8 rfl),Xl 2 rfl rfl rfl rfl (by kernel_rfl) Qb0 rfl (.here 9 rfl),Zc (fun _ _=>by kernel_rfl) (Y2 _) (.tmp 9 rfl rfl) (.here 10 rfl) (c_of (lofs_get (L:=L) (i:=k) (by omega)) (hL.2 k (by omega))),Xn (.tmp 7 rfl rfl) (.tmp 8 rfl rfl) Xk (by omega) (by omega) (by kernel_rfl) (.here 11 rfl),Qaa (sz:=3) (n:=L.length) (q:=k) (ag:=true) (f:=J5 k (fun i=>Qo ((Ya L).getD i 0)) (Qo 0)) (p:=Qo ((Ya L).getD k 0)) 0 rfl rfl rfl (by kernel_rfl) rfl rfl 0 rfl (by kernel_rfl) (by kernel_rfl) (.tmp 0 rfl rfl) (.tmp 11 rfl rfl) (show 0+((k:Int)).toNat*3=k*3 by omega) (by omega) Q4 rfl (.tmp 10 rfl rfl) (X8 _),trivial⟩
    obtain⟨g2,hI⟩:=hI.openRow 1 rfl rfl rfl
    refine Y0 hI [] [] [⟨some 0,none,26,Qp (.slice (some ⟨g2,0,none⟩) L.length L.length)⟩,⟨some 1,none,27,pI (k:Int)⟩,⟨some 2,none,28,Xg ((L.getD k Qx).1) ((L.getD k Qx).2.1)⟩,⟨some 3,none,29,Qw ((Ya L).getD k 0)⟩,⟨some 4,none,30,Qp (.pointer (some ⟨g2,0+((k:Int)).toNat*3,none⟩))⟩] (.k (.u none [(5,pv (Z0 3 true L.length (setP (J5 k (fun i=>Qw ((Ya L).getD i 0)) (Xu)) k (Qw ((Ya L).getD k 0)))))] (.k .z))) (.k8 .z) rfl [0,1,3,7,15,31] (by kernel_rfl) ?_ (.k (.s .o (.k .z))) (.kkkk (.kkkd (.dddd (.d .z)))) fun a w hI=>?_
    · exact⟨Qa (.tmp 0 rfl rfl) (.here 8 rfl),Qa (.tmp 7 rfl rfl) (.here 9 rfl),Xl 2 rfl rfl rfl rfl (by kernel_rfl) Qb0 rfl (.here 10 rfl),Zc (fun _ _=>by kernel_rfl) (Yl _) (.tmp 10 rfl rfl) (.here 11 rfl) (cn_ofk (lofs_get (L:=L) (i:=k) (by omega)) (hL.2 k (by omega)).1 (hL.2 k (by omega)).2.1 (hL.2 k (by omega)).2.2),Xn (.tmp 8 rfl rfl) (.tmp 9 rfl rfl) Zk (by omega) (by omega) (by kernel_rfl) (.here 12 rfl),Qaa (sz:=3) (n:=L.length) (q:=k) (ag:=true) (f:=J5 k (fun i=>Qw ((Ya L).getD i 0)) (Xu)) (p:=Qw ((Ya L).getD k 0)) 1 rfl rfl rfl (by kernel_rfl) rfl rfl 0 rfl (by kernel_rfl) (by kernel_rfl) (.tmp 0 rfl rfl) (.tmp 12 rfl rfl) (show 0+((k:Int)).toNat*3=k*3 by omega) (by omega) Yw rfl (.tmp 11 rfl rfl) (Yk _),trivial⟩
    refine Yd ?_
    refine Qh ?_
    refine Y0 hI [] [] [⟨some 0,none,31,pI ((k:Int)+(1:Int))⟩,⟨some 1,none,16,pI ((k:Int)+(1:Int))⟩] (.k (.k (.k .z))) (.kkkk (.kk (.t 1 .z))) rfl [0,1] (by kernel_rfl) ?_ (.k (.k (.k .z))) (.kkkk (.kkdd (.k .z))) fun a w hI=>?_
    · exact⟨Qk (v:=.int .i64 (IntKind.i64.wrap ((k:Int)+(1:Int)))) (.tmp 6 rfl rfl) (.const _) (fun _=>rfl) (.at_ 7 _ _ rfl (X3 (by omega))),Qa (.tmp 7 rfl rfl) (.here 8 rfl),trivial⟩
    refine Qh ?_
    exact⟨k+1,⟨(show k+1≤L.length by omega),(hI.conv ⟨⟨0,_,_,rfl,⟨rfl,rfl,rfl⟩,rfl,fun _=>(Vn (Qad fun _ _ q=>q))⟩,⟨1,_,_,rfl,⟨rfl,rfl,rfl⟩,rfl,fun _=>(Vn (Qad fun _ _ q=>q))⟩,trivial⟩ ⟨⟨rfl,rfl,2,_,rfl,fun _ _ h=>h⟩,⟨rfl,rfl,3,_,rfl,fun _ _ h=>h⟩,⟨rfl,rfl,4,_,rfl,fun _ _ h=>h⟩,⟨rfl,rfl,5,_,rfl,fun _ _ h=>h⟩,⟨rfl,rfl,6,_,rfl,(Q9 (by omega))⟩,trivial⟩)⟩,(show L.length-(k+1)<L.length-k by omega)⟩
  · have t2:=of_decide_eq_false ht
    refine wp_exit ?_
    refine Qv ?_
    refine Qv ?_
    refine Xt ?_
    refine Qh ?_
    obtain⟨g3,hI⟩:=hI.openRow 0 rfl rfl rfl
    replace hI:=hI.restRow (n0:=0) (k0:=0) (f':=(fun i=>Qo ((Ya L).getD i 0))) rfl (by kernel_rfl) (by omega) (fun i hi w v q=>by rw[show k=L.length by omega]at q; exact Qef i hi w v q)
    obtain⟨g4,hI⟩:=hI.openRow 0 rfl rfl rfl
    replace hI:=hI.restRow (n0:=0) (k0:=0) (f':=(fun i=>Qw ((Ya L).getD i 0))) rfl (by kernel_rfl) (by omega) (fun i hi w v q=>by rw[show k=L.length by omega]at q; exact Qef i hi w v q)
    refine Qe hI [] [] [⟨some 0,none,32,Qd 3 true L.length (fun i=>Qo ((Ya L).getD i 0))⟩,⟨some 1,none,33,Qd 3 true L.length (fun i=>Qw ((Ya L).getD i 0))⟩,⟨some 2,none,2,Qd 3 true L.length (fun i=>Qo ((Ya L).getD i 0))⟩,⟨some 3,none,3,Qd 3 true L.length (fun i=>Qw ((Ya L).getD i 0))⟩] .z (.kk (.t 2 (.t 3 (.kkkk .z)))) rfl [0,1,3,7] (by kernel_rfl) ?_ .z (.d8 (.ddkk .z)) fun a w hI=>?_
    · exact⟨Qa (.tmp 1 rfl rfl) (.here 8 rfl),Qa (.tmp 0 rfl rfl) (.here 9 rfl),Qc (.tmp 8 rfl rfl) (.here 10 rfl),Qc (.tmp 9 rfl rfl) (.here 11 rfl),trivial⟩
    refine wp_ret ?_
    exact K5 hI rfl (.imp (.tmp 0 rfl) (fun w v h=>by rw[pRats_len Qct]; exact h)) (.imp (.tmp 1 rfl) (fun w v h=>by rw[pRefs_len Qct]; exact h))
theorem c_matrix {LL:List (List FD)} (hLL:LL.length≤1000000∧∀i,i<LL.length→(LL.getD i []).length≤1000000∧∀k,k<(LL.getD i []).length→FdOk ((LL.getD i []).getD k Qx)):∀(M:Nat→Nat→Prop) (w:World) (v0:Value),Mid M w→Box M (fun w=>(Qd 1 false LL.length (fun i=>Qd 2 true (LL.getD i []).length (fun k=>Xg ((LL.getD i []).getD k Qx).1 ((LL.getD i []).getD k Qx).2.1))) w v0) w→Calls Tryz.prog 8 #[v0] w (RetB M (Xj (Qd 1 false LL.length (fun i=>Qf ((Qq LL).getD i []))) (Qd 1 false LL.length (fun i=>Qi ((Qq LL).getD i [])))) w):=by
  intro M w0 v0 hM hv0
  refine Q0 (N:=35) Tryz.func8 rfl rfl rfl hM (show EntsA M w0 [v0] [⟨none,none,0,Qd 1 false LL.length (fun i=>Qd 2 true (LL.getD i []).length (fun k=>Xg ((LL.getD i []).getD k Qx).1 ((LL.getD i []).getD k Qx).2.1))⟩]from⟨⟨rfl,_,rfl,hv0⟩,trivial⟩) fun a hI=>?_
  refine Qe hI [] [] [⟨some 0,none,2,Qp ((Value.slice none 0 0))⟩,⟨some 1,none,3,Qp ((Value.slice none 0 0))⟩] .z (.k .z) rfl [0,1] (by kernel_rfl) ?_ .z (.kkk .z) fun a w hI=>?_
  · exact⟨Qc (.const _) (.here 1 rfl),Qc (.const _) (.here 2 rfl),trivial⟩
  refine seq_D hI [⟨10,10,some 2,some 6,(.row LL.length),39,(LL.length*1),true,pv (Z0 1 false LL.length (fun _=>Qp (.slice none 0 0))),[]⟩,⟨13,13,some 5,some 7,(.row LL.length),34,(LL.length*1),true,pv (Z0 1 false LL.length (fun _=>Qp (.slice none 0 0))),[]⟩,⟨4,4,some 6,none,(.row LL.length),39,(LL.length*1),true,pv (Z0 1 false LL.length (fun _=>Qp (.slice none 0 0))),[]⟩,⟨5,5,some 7,none,(.row LL.length),34,(LL.length*1),true,pv (Z0 1 false LL.length (fun _=>Qp (.slice none 0 0))),[]⟩] [] [⟨some 0,none,8,Qd 1 false LL.length (fun i=>Qd 2 true (LL.getD i []).length (fun k=>Xg ((LL.getD i []).getD k Qx).1 ((LL.getD i []).getD k Qx).2.1))⟩,⟨some 1,none,9,pI (LL.length:Int)⟩,⟨some 3,none,11,Qd 1 false LL.length (fun i=>Qd 2 true (LL.getD i []).length (fun k=>Xg ((LL.getD i []).getD k Qx).1 ((LL.getD i []).getD k Qx).2.1))⟩,⟨some 4,none,12,pI (LL.length:Int)⟩] .z (.kkk .z) rfl [0,1,3,0,8,24,7,127] (by kernel_rfl) ?_ (.d (.d (.k (.k .z)))) (.kkkd (.ddd .z)) fun a w hI=>?_
  · exact⟨Qa (.tmp 0 rfl rfl) (.here 3 rfl),Qz (.tmp 3 rfl rfl) (Ke).under (.here 4 rfl),Vi (n:=LL.length) (p0:=Qp (.slice none 0 0)) (zv:=.slice none 0 0) (z:=[.slice none 0 0]) 0 rfl rfl (by kernel_rfl) (by kernel_rfl) (by kernel_rfl) rfl rfl rfl rfl rfl (.tmp 4 rfl rfl) (.tmp 4 rfl rfl) (Q8).under (by kernel_rfl) rfl rfl (by omega) (by simp[Yr]) (fun _=>rfl) (by omega),Qa (.tmp 0 rfl rfl) (.here 5 rfl),Qz (.tmp 5 rfl rfl) (Ke).under (.here 6 rfl),Vi (n:=LL.length) (p0:=Qp (.slice none 0 0)) (zv:=.slice none 0 0) (z:=[.slice none 0 0]) 1 rfl rfl (by kernel_rfl) (by kernel_rfl) (by kernel_rfl) rfl rfl rfl rfl rfl (.tmp 6 rfl rfl) (.tmp 6 rfl rfl) (Xo).under (by kernel_rfl) rfl rfl (by omega) (by simp[Yr]) (fun _=>rfl) (by omega),Qag 0 rfl rfl rfl rfl rfl (by kernel_rfl) rfl 2 rfl rfl rfl rfl rfl rfl rfl rfl (by kernel_rfl) (by kernel_rfl),Qag 1 rfl rfl rfl rfl rfl (by kernel_rfl) rfl 3 rfl rfl rfl rfl rfl rfl rfl rfl (by kernel_rfl) (by kernel_rfl),trivial⟩
  refine wp_seq ?_
  refine Qe hI [] [] [⟨some 0,none,14,Qd 1 false LL.length (fun i=>Qd 2 true (LL.getD i []).length (fun k=>Xg ((LL.getD i []).getD k Qx).1 ((LL.getD i []).getD k Qx).2.1))⟩,⟨some 1,none,15,pI (LL.length:Int)⟩,⟨some 2,none,16,pI 0⟩] (.k (.k .z)) (.kkk .z) rfl [0,1,3] (by kernel_rfl) ?_ (.k (.k .z)) (.dkkk (.kk .z)) fun a w hI=>?_
  · exact⟨Qa (.tmp 0 rfl rfl) (.here 3 rfl),Qz (.tmp 3 rfl rfl) (Ke).under (.here 4 rfl),Qa (.const _) (.here 5 rfl),trivial⟩
  refine wp_block ?_
  refine Xw (fun(k:Nat) a w=>(k≤LL.length)∧Inv ⟨35,w0,M,fun _=>False⟩ [⟨4,4,none,none,(.row LL.length),39,(LL.length*1),true,pv (Z0 1 false LL.length (J5 k (fun i=>Qf ((Qq LL).getD i [])) (Qp (.slice none 0 0)))),[]⟩,⟨5,5,none,none,(.row LL.length),34,(LL.length*1),true,pv (Z0 1 false LL.length (J5 k (fun i=>Qi ((Qq LL).getD i [])) (Qp (.slice none 0 0)))),[]⟩] [] [⟨none,none,2,Qp ((Value.slice none 0 0))⟩,⟨none,none,3,Qp ((Value.slice none 0 0))⟩,⟨none,none,14,Qd 1 false LL.length (fun i=>Qd 2 true (LL.getD i []).length (fun k=>Xg ((LL.getD i []).getD k Qx).1 ((LL.getD i []).getD k Qx).2.1))⟩,⟨none,none,15,pI (LL.length:Int)⟩,⟨none,none,16,pI (k:Int)⟩] Ql a w) (fun(k:Nat)=>LL.length-k) (0) ⟨Nat.zero_le _,(hI.conv ⟨⟨0,_,_,rfl,⟨rfl,rfl,rfl⟩,rfl,fun _=>(Vn Qdd)⟩,⟨1,_,_,rfl,⟨rfl,rfl,rfl⟩,rfl,fun _=>(Vn Qdd)⟩,trivial⟩ ⟨⟨rfl,rfl,0,_,rfl,fun _ _ h=>h⟩,⟨rfl,rfl,1,_,rfl,fun _ _ h=>h⟩,⟨rfl,rfl,2,_,rfl,fun _ _ h=>h⟩,⟨rfl,rfl,3,_,rfl,fun _ _ h=>h⟩,⟨rfl,rfl,4,_,rfl,(Q9 (by omega))⟩,trivial⟩)⟩ ?_
  intro k a w hIk
  obtain⟨hp,hI⟩:=hIk
  refine Qe hI [] [] [⟨some 0,none,17,pB (decide ((k:Int)<(LL.length:Int)))⟩] (.k (.k .z)) (.kkkk (.k .z)) rfl [0] (by kernel_rfl) ?_ (.k (.k .z)) (.kkkk (.kk .z)) fun a w hI=>?_
  · exact⟨Qk (v:=.bool (decide ((k:Int)<(LL.length:Int)))) (.tmp 4 rfl rfl) (.tmp 3 rfl rfl) (fun _=>rfl) (.here 5 rfl),trivial⟩
  refine wp_seq ?_
  refine Xi hI 5 rfl (fun ht=>?_) (fun ht=>?_)
  · have t1:=of_decide_eq_true ht
    refine wp_skip ?_
    refine Qh ?_
    refine wp_seq ?_
    refine wp_block ?_
    refine Qe hI [] [] [⟨some 0,none,18,pI (k:Int)⟩,⟨some 1,none,19,Yb 1 false (Qd 2 true (LL.getD k []).length (fun i=>Xg ((LL.getD k []).getD i Qx).1 ((LL.getD k []).getD i Qx).2.1))⟩,⟨some 2,none,20,Qd 2 true (LL.getD k []).length (fun i=>Xg ((LL.getD k []).getD i Qx).1 ((LL.getD k []).getD i Qx).2.1)⟩,⟨some 3,none,6,pI (k:Int)⟩,⟨some 4,none,7,Qd 2 true (LL.getD k []).length (fun i=>Xg ((LL.getD k []).getD i Qx).1 ((LL.getD k []).getD i Qx).2.1)⟩] (.k (.k .z)) (.kkkk (.kk .z)) rfl [0,1,3,7,15] (by kernel_rfl) ?_ (.k (.k .z)) (.kkkk (.kddd (.dkk .z))) fun a w hI=>?_
    · exact⟨Qa (.tmp 4 rfl rfl) (.here 6 rfl),Qt (.tmp 2 rfl rfl) (.tmp 4 rfl rfl) Ke (by omega) (by omega) (by kernel_rfl) (.at_ 7 _ _ rfl (by rw[Int.toNat_natCast]; exact fun _ _ h=>h)),Q5 (.tmp 7 rfl rfl) ty_Fracs (Ww) (.here 8 rfl),Qc (.tmp 6 rfl rfl) (.here 9 rfl),Qc (.tmp 8 rfl rfl) (.here 10 rfl),trivial⟩
    obtain⟨g1,hI⟩:=hI.openRow 0 rfl rfl rfl
    obtain⟨g2,hI⟩:=hI.openRow 1 rfl rfl rfl
    refine Y0 hI [] [] [⟨some 0,none,22,Qp (.slice (some ⟨g1,0,none⟩) LL.length LL.length)⟩,⟨some 1,none,23,pI (k:Int)⟩,⟨some 2,none,24,Qp (.slice (some ⟨g2,0,none⟩) LL.length LL.length)⟩,⟨some 3,none,25,pI (k:Int)⟩,⟨some 4,none,26,Qd 2 true (LL.getD k []).length (fun i=>Xg ((LL.getD k []).getD i Qx).1 ((LL.getD k []).getD i Qx).2.1)⟩,⟨some 5,none,27,Xj (Qf (Ya (LL.getD k []))) (Qi (Ya (LL.getD k [])))⟩,⟨some 6,none,21,Xj (Qf (Ya (LL.getD k []))) (Qi (Ya (LL.getD k [])))⟩,⟨some 7,none,28,Qf (Ya (LL.getD k []))⟩,⟨some 8,none,29,Qi (Ya (LL.getD k []))⟩,⟨some 9,none,30,Qp (.pointer (some ⟨g1,0+((k:Int)).toNat*1,none⟩))⟩,⟨some 11,none,31,Qp (.pointer (some ⟨g2,0+((k:Int)).toNat*1,none⟩))⟩] (.u none [(10,pv (Z0 1 false LL.length (setP (J5 k (fun i=>Qf ((Qq LL).getD i [])) (Qp (.slice none 0 0))) k (Qf (Ya (LL.getD k []))))))] (.u none [(12,pv (Z0 1 false LL.length (setP (J5 k (fun i=>Qi ((Qq LL).getD i [])) (Qp (.slice none 0 0))) k (Qi (Ya (LL.getD k []))))))] .z)) (.k8 (.k .z)) rfl [0,1,3,7,15,31,63,127,255,511,1023,2047,4095] (by kernel_rfl) ?_ (.s .o (.s .o .z)) (.kkkk (.kkkd (.d8 (.dddd .z)))) fun a w hI=>?_
    · exact⟨Qa (.tmp 1 rfl rfl) (.here 9 rfl),Qa (.tmp 7 rfl rfl) (.here 10 rfl),Qa (.tmp 0 rfl rfl) (.here 11 rfl),Qa (.tmp 7 rfl rfl) (.here 12 rfl),Qa (.tmp 8 rfl rfl) (.here 13 rfl),Q3 (fun _ _=>by kernel_rfl) (.tmp 13 rfl rfl) (.here 14 rfl) (c_list (hLL.2 k (by omega))),Qa (.tmp 14 rfl rfl) (.here 15 rfl),Ye (.tmp 15 rfl rfl) Ui (.here 16 rfl),Ye (.tmp 15 rfl rfl) Ua (.here 17 rfl),Xn (.tmp 9 rfl rfl) (.tmp 10 rfl rfl) Q8 (by omega) (by omega) (by kernel_rfl) (.here 18 rfl),Qaa (sz:=1) (n:=LL.length) (q:=k) (ag:=false) (f:=J5 k (fun i=>Qf ((Qq LL).getD i [])) (Qp (.slice none 0 0))) (p:=Qf (Ya (LL.getD k []))) 0 rfl rfl rfl (by kernel_rfl) rfl rfl 0 rfl (by kernel_rfl) (by kernel_rfl) (.tmp 1 rfl rfl) (.tmp 18 rfl rfl) (show 0+((k:Int)).toNat*1=k*1 by omega) (by omega) X0 rfl (.tmp 16 rfl rfl) (Y3 _),Xn (.tmp 11 rfl rfl) (.tmp 12 rfl rfl) Xo (by omega) (by omega) (by kernel_rfl) (.here 19 rfl),Qaa (sz:=1) (n:=LL.length) (q:=k) (ag:=false) (f:=J5 k (fun i=>Qi ((Qq LL).getD i [])) (Qp (.slice none 0 0))) (p:=Qi (Ya (LL.getD k []))) 1 rfl rfl rfl (by kernel_rfl) rfl rfl 0 rfl (by kernel_rfl) (by kernel_rfl) (.tmp 0 rfl rfl) (.tmp 19 rfl rfl) (show 0+((k:Int)).toNat*1=k*1 by omega) (by omega) J2 rfl (.tmp 17 rfl rfl) (Zm _),trivial⟩
    refine Yd ?_
    refine Qh ?_
    refine Y0 hI [] [] [⟨some 0,none,32,pI ((k:Int)+(1:Int))⟩,⟨some 1,none,16,pI ((k:Int)+(1:Int))⟩] (.k (.k .z)) (.kkkk (.kk (.t 1 .z))) rfl [0,1] (by kernel_rfl) ?_ (.k (.k .z)) (.kkkk (.kkdd (.k .z))) fun a w hI=>?_
    · exact⟨Qk (v:=.int .i64 (IntKind.i64.wrap ((k:Int)+(1:Int)))) (.tmp 6 rfl rfl) (.const _) (fun _=>rfl) (.at_ 7 _ _ rfl (X3 (by omega))),Qa (.tmp 7 rfl rfl) (.here 8 rfl),trivial⟩
    refine Qh ?_
    exact⟨k+1,⟨(show k+1≤LL.length by omega),(hI.conv ⟨⟨0,_,_,rfl,⟨rfl,rfl,rfl⟩,rfl,fun _=>(Vn (Qad fun w v q=>by rw[Qcb (by omega)]; exact q))⟩,⟨1,_,_,rfl,⟨rfl,rfl,rfl⟩,rfl,fun _=>(Vn (Qad fun w v q=>by rw[Qcb (by omega)]; exact q))⟩,trivial⟩ ⟨⟨rfl,rfl,2,_,rfl,fun _ _ h=>h⟩,⟨rfl,rfl,3,_,rfl,fun _ _ h=>h⟩,⟨rfl,rfl,4,_,rfl,fun _ _ h=>h⟩,⟨rfl,rfl,5,_,rfl,fun _ _ h=>h⟩,⟨rfl,rfl,6,_,rfl,(Q9 (by omega))⟩,trivial⟩)⟩,(show LL.length-(k+1)<LL.length-k by omega)⟩
  · have t2:=of_decide_eq_false ht
    refine wp_exit ?_
    refine Qv ?_
    refine Qv ?_
    refine Xt ?_
    refine Qh ?_
    obtain⟨g3,hI⟩:=hI.openRow 0 rfl rfl rfl
    replace hI:=hI.restRow (n0:=0) (k0:=0) (f':=(fun i=>Qf ((Qq LL).getD i []))) rfl (by kernel_rfl) (by omega) (fun i hi w v q=>by rw[show k=LL.length by omega]at q; exact Qef i hi w v q)
    obtain⟨g4,hI⟩:=hI.openRow 0 rfl rfl rfl
    replace hI:=hI.restRow (n0:=0) (k0:=0) (f':=(fun i=>Qi ((Qq LL).getD i []))) rfl (by kernel_rfl) (by omega) (fun i hi w v q=>by rw[show k=LL.length by omega]at q; exact Qef i hi w v q)
    refine Qe hI [] [] [⟨some 0,none,33,Qd 1 false LL.length (fun i=>Qf ((Qq LL).getD i []))⟩,⟨some 1,none,34,Qd 1 false LL.length (fun i=>Qi ((Qq LL).getD i []))⟩,⟨some 2,none,2,Qd 1 false LL.length (fun i=>Qf ((Qq LL).getD i []))⟩,⟨some 3,none,3,Qd 1 false LL.length (fun i=>Qi ((Qq LL).getD i []))⟩] .z (.kk (.t 2 (.t 3 (.kkkk .z)))) rfl [0,1,3,7] (by kernel_rfl) ?_ .z (.d8 (.ddkk .z)) fun a w hI=>?_
    · exact⟨Qa (.tmp 1 rfl rfl) (.here 8 rfl),Qa (.tmp 0 rfl rfl) (.here 9 rfl),Qc (.tmp 8 rfl rfl) (.here 10 rfl),Qc (.tmp 9 rfl rfl) (.here 11 rfl),trivial⟩
    refine wp_ret ?_
    exact K5 hI rfl (.tmp 0 rfl) (.tmp 1 rfl)
theorem c_Are {A:List Rat} {j:Nat} (hA:A.length≤1000000) (hb:∀k,BdR j (A.getD k 0)) (hj:j≤100000000):∀(M:Nat→Nat→Prop) (w:World) (v0 v1:Value),Mid M w→Box M (fun w=>(Qf A) w v0) w→Box M (fun w=>(Qi A) w v1) w→Calls Tryz.prog 30 #[v0,v1] w (RetB M (pB true) w):=by
  intro M w0 v0 v1 hM hv0 hv1
  refine Q0 (N:=27) Tryz.func30 rfl rfl rfl hM (show EntsA M w0 [v0,v1] [⟨none,none,0,Qf A⟩,⟨none,none,1,Qi A⟩]from⟨⟨rfl,_,rfl,hv0⟩,⟨rfl,_,rfl,hv1⟩,trivial⟩) fun a hI=>?_
  refine Qe hI [] [] [⟨some 0,none,4,pB false⟩] .z (.kk .z) rfl [0] (by kernel_rfl) ?_ .z (.kkk .z) fun a w hI=>?_
  · exact⟨Qc (.const _) (.here 2 rfl),trivial⟩
  refine wp_seq ?_
  refine Qe hI [] [] [⟨some 0,none,6,Qf A⟩,⟨some 1,none,7,pI (A.length:Int)⟩,⟨some 2,none,8,Qi A⟩,⟨some 3,none,9,pI (A.length:Int)⟩,⟨some 4,none,10,pB false⟩] .z (.kkk .z) rfl [0,1,3,7,15] (by kernel_rfl) ?_ .z (.kkkd (.dddk .z)) fun a w hI=>?_
  · exact⟨Qa (.tmp 0 rfl rfl) (.here 3 rfl),Qz (.tmp 3 rfl rfl) (Xk).under (.here 4 rfl),Qa (.tmp 1 rfl rfl) (.here 5 rfl),Qz (.tmp 5 rfl rfl) (Zk).under (.here 6 rfl),Qk (v:=.bool (((A.length:Int) != (A.length:Int)))) (.tmp 4 rfl rfl) (.tmp 6 rfl rfl) (fun _=>rfl) (.at_ 7 _ _ rfl (Y4 (bne_self_eq_false _))),trivial⟩
  refine Yi hI 3 rfl ?_
  refine wp_skip ?_
  refine Qh ?_
  refine wp_seq ?_
  refine Qe hI [] [] [⟨some 0,none,11,Qf A⟩,⟨some 1,none,12,pI (A.length:Int)⟩,⟨some 2,none,13,pI 0⟩] .z (.kkkk .z) rfl [0,1,3] (by kernel_rfl) ?_ .z (.kkkd (.dkk .z)) fun a w hI=>?_
  · exact⟨Qa (.tmp 0 rfl rfl) (.here 4 rfl),Qz (.tmp 4 rfl rfl) (Xk).under (.here 5 rfl),Qa (.const _) (.here 6 rfl),trivial⟩
  refine wp_block ?_
  refine Xw (fun(k:Nat) a w=>(k≤A.length)∧Inv ⟨27,w0,M,fun _=>False⟩ [] [] [⟨none,none,0,Qf A⟩,⟨none,none,1,Qi A⟩,⟨none,none,12,pI (A.length:Int)⟩,⟨none,none,13,pI (k:Int)⟩] Ql a w) (fun(k:Nat)=>A.length-k) (0) ⟨Nat.zero_le _,(hI.conv trivial ⟨⟨rfl,rfl,0,_,rfl,fun _ _ h=>h⟩,⟨rfl,rfl,1,_,rfl,fun _ _ h=>h⟩,⟨rfl,rfl,3,_,rfl,fun _ _ h=>h⟩,⟨rfl,rfl,4,_,rfl,(Q9 (by omega))⟩,trivial⟩)⟩ ?_
  intro k a w hIk
  obtain⟨hp,hI⟩:=hIk
  refine Qe hI [] [] [⟨some 0,none,14,pB (decide ((k:Int)<(A.length:Int)))⟩] .z (.kkkk .z) rfl [0] (by kernel_rfl) ?_ .z (.kkkk (.k .z)) fun a w hI=>?_
  · exact⟨Qk (v:=.bool (decide ((k:Int)<(A.length:Int)))) (.tmp 3 rfl rfl) (.tmp 2 rfl rfl) (fun _=>rfl) (.here 4 rfl),trivial⟩
  refine wp_seq ?_
  refine Xi hI 4 rfl (fun ht=>?_) (fun ht=>?_)
  · have t1:=of_decide_eq_true ht
    refine wp_skip ?_
    refine Qh ?_
    refine wp_seq ?_
    refine wp_block ?_
    refine Qe hI [] [] [⟨some 0,none,15,pI (k:Int)⟩,⟨some 1,none,5,pI (k:Int)⟩] .z (.kkkk (.k .z)) rfl [0,1] (by kernel_rfl) ?_ .z (.kkkk (.ddk .z)) fun a w hI=>?_
    · exact⟨Qa (.tmp 3 rfl rfl) (.here 5 rfl),Qc (.tmp 5 rfl rfl) (.here 6 rfl),trivial⟩
    refine seq_D hI [] [] [⟨some 0,none,16,Qf A⟩,⟨some 1,none,17,pI (k:Int)⟩,⟨some 2,none,18,Yb 3 true (Qo (A.getD k 0))⟩,⟨some 3,none,19,Qo (A.getD k 0)⟩,⟨some 4,none,20,Qi A⟩,⟨some 5,none,21,pI (k:Int)⟩,⟨some 6,none,22,Yb 3 true (Qw (A.getD k 0))⟩,⟨some 7,none,23,Qw (A.getD k 0)⟩,⟨some 8,none,24,pB true⟩,⟨some 9,none,25,pB false⟩] .z (.kkkk (.k .z)) rfl [0,0,3,7,0,0,48,112,255,511] (by kernel_rfl) ?_ .z (.kkkk (.d8 (.ddk .z))) fun a w hI=>?_
    · exact⟨Qa (.tmp 0 rfl rfl) (.here 5 rfl),Qa (.tmp 4 rfl rfl) (.here 6 rfl),Qt (.tmp 5 rfl rfl) (.tmp 6 rfl rfl) Xk (by omega) (by omega) (by kernel_rfl) (.at_ 7 _ _ rfl (by rw[Int.toNat_natCast]; exact fun _ _ h=>h)),Q5 (.tmp 7 rfl rfl) Q4 (X8 _) (.here 8 rfl),Qa (.tmp 1 rfl rfl) (.here 9 rfl),Qa (.tmp 4 rfl rfl) (.here 10 rfl),Qt (.tmp 9 rfl rfl) (.tmp 10 rfl rfl) Zk (by omega) (by omega) (by kernel_rfl) (.at_ 11 _ _ rfl (by rw[Int.toNat_natCast]; exact fun _ _ h=>h)),Q5 (.tmp 11 rfl rfl) Yw (Yk _) (.here 12 rfl),Yf (fun _ _=>by kernel_rfl) (Y9 _) (.tmp 8 rfl rfl) (.tmp 12 rfl rfl) (.here 13 rfl) (c_is (hb k) hj rfl),Wa (.tmp 13 rfl rfl) (.here 14 rfl),trivial⟩
    refine Yi hI 4 rfl ?_
    refine wp_skip ?_
    refine Yd ?_
    refine Qh ?_
    refine Y0 hI [] [] [⟨some 0,none,26,pI ((k:Int)+(1:Int))⟩,⟨some 1,none,13,pI ((k:Int)+(1:Int))⟩] .z (.kkk (.t 1 (.k .z))) rfl [0,1] (by kernel_rfl) ?_ .z (.kkkd (.ddk .z)) fun a w hI=>?_
    · exact⟨Qk (v:=.int .i64 (IntKind.i64.wrap ((k:Int)+(1:Int)))) (.tmp 3 rfl rfl) (.const _) (fun _=>rfl) (.at_ 5 _ _ rfl (X3 (by omega))),Qa (.tmp 5 rfl rfl) (.here 6 rfl),trivial⟩
    refine Qh ?_
    exact⟨k+1,⟨(show k+1≤A.length by omega),(hI.conv trivial ⟨⟨rfl,rfl,0,_,rfl,fun _ _ h=>h⟩,⟨rfl,rfl,1,_,rfl,fun _ _ h=>h⟩,⟨rfl,rfl,2,_,rfl,fun _ _ h=>h⟩,⟨rfl,rfl,3,_,rfl,(Q9 (by omega))⟩,trivial⟩)⟩,(show A.length-(k+1)<A.length-k by omega)⟩
  · have t2:=of_decide_eq_false ht
    refine wp_exit ?_
    refine Qv ?_
    refine Qv ?_
    refine Xt ?_
    refine Qh ?_
    refine Qe hI [] [] [⟨some 0,none,4,pB true⟩] .z (.kkkk (.k .z)) rfl [0] (by kernel_rfl) ?_ .z (.dddd (.dk .z)) fun a w hI=>?_
    · exact⟨Qc (.const _) (.here 5 rfl),trivial⟩
    refine wp_ret ?_
    exact Zr hI rfl (.tmp 0 rfl)
theorem c_IsMatrix {A:List (List Rat)} {j:Nat} (hA:A.length≤1000000∧∀i,i<A.length→(A.getD i []).length≤1000000) (hb:∀i k,BdR j ((A.getD i []).getD k 0)) (hj:j≤100000000):∀(M:Nat→Nat→Prop) (w:World) (v0 v1:Value),Mid M w→Box M (fun w=>(Qd 1 false A.length (fun i=>Qf (A.getD i []))) w v0) w→Box M (fun w=>(Qd 1 false A.length (fun i=>Qi (A.getD i []))) w v1) w→Calls Tryz.prog 18 #[v0,v1] w (RetB M (pB true) w):=by
  intro M w0 v0 v1 hM hv0 hv1
  refine Q0 (N:=27) Tryz.func18 rfl rfl rfl hM (show EntsA M w0 [v0,v1] [⟨none,none,0,Qd 1 false A.length (fun i=>Qf (A.getD i []))⟩,⟨none,none,1,Qd 1 false A.length (fun i=>Qi (A.getD i []))⟩]from⟨⟨rfl,_,rfl,hv0⟩,⟨rfl,_,rfl,hv1⟩,trivial⟩) fun a hI=>?_
  refine Qe hI [] [] [⟨some 0,none,4,pB false⟩] .z (.kk .z) rfl [0] (by kernel_rfl) ?_ .z (.kkk .z) fun a w hI=>?_
  · exact⟨Qc (.const _) (.here 2 rfl),trivial⟩
  refine wp_seq ?_
  refine Qe hI [] [] [⟨some 0,none,6,Qd 1 false A.length (fun i=>Qf (A.getD i []))⟩,⟨some 1,none,7,pI (A.length:Int)⟩,⟨some 2,none,8,Qd 1 false A.length (fun i=>Qi (A.getD i []))⟩,⟨some 3,none,9,pI (A.length:Int)⟩,⟨some 4,none,10,pB false⟩] .z (.kkk .z) rfl [0,1,3,7,15] (by kernel_rfl) ?_ .z (.kkkd (.dddk .z)) fun a w hI=>?_
  · exact⟨Qa (.tmp 0 rfl rfl) (.here 3 rfl),Qz (.tmp 3 rfl rfl) (Q8).under (.here 4 rfl),Qa (.tmp 1 rfl rfl) (.here 5 rfl),Qz (.tmp 5 rfl rfl) (Xo).under (.here 6 rfl),Qk (v:=.bool (((A.length:Int) != (A.length:Int)))) (.tmp 4 rfl rfl) (.tmp 6 rfl rfl) (fun _=>rfl) (.at_ 7 _ _ rfl (Y4 (bne_self_eq_false _))),trivial⟩
  refine Yi hI 3 rfl ?_
  refine wp_skip ?_
  refine Qh ?_
  refine wp_seq ?_
  refine Qe hI [] [] [⟨some 0,none,11,Qd 1 false A.length (fun i=>Qf (A.getD i []))⟩,⟨some 1,none,12,pI (A.length:Int)⟩,⟨some 2,none,13,pI 0⟩] .z (.kkkk .z) rfl [0,1,3] (by kernel_rfl) ?_ .z (.kkkd (.dkk .z)) fun a w hI=>?_
  · exact⟨Qa (.tmp 0 rfl rfl) (.here 4 rfl),Qz (.tmp 4 rfl rfl) (Q8).under (.here 5 rfl),Qa (.const _) (.here 6 rfl),trivial⟩
  refine wp_block ?_
  refine Xw (fun(k:Nat) a w=>(k≤A.length)∧Inv ⟨27,w0,M,fun _=>False⟩ [] [] [⟨none,none,0,Qd 1 false A.length (fun i=>Qf (A.getD i []))⟩,⟨none,none,1,Qd 1 false A.length (fun i=>Qi (A.getD i []))⟩,⟨none,none,12,pI (A.length:Int)⟩,⟨none,none,13,pI (k:Int)⟩] Ql a w) (fun(k:Nat)=>A.length-k) (0) ⟨Nat.zero_le _,(hI.conv trivial ⟨⟨rfl,rfl,0,_,rfl,fun _ _ h=>h⟩,⟨rfl,rfl,1,_,rfl,fun _ _ h=>h⟩,⟨rfl,rfl,3,_,rfl,fun _ _ h=>h⟩,⟨rfl,rfl,4,_,rfl,(Q9 (by omega))⟩,trivial⟩)⟩ ?_
  intro k a w hIk
  obtain⟨hp,hI⟩:=hIk
  refine Qe hI [] [] [⟨some 0,none,14,pB (decide ((k:Int)<(A.length:Int)))⟩] .z (.kkkk .z) rfl [0] (by kernel_rfl) ?_ .z (.kkkk (.k .z)) fun a w hI=>?_
  · exact⟨Qk (v:=.bool (decide ((k:Int)<(A.length:Int)))) (.tmp 3 rfl rfl) (.tmp 2 rfl rfl) (fun _=>rfl) (.here 4 rfl),trivial⟩
  refine wp_seq ?_
  refine Xi hI 4 rfl (fun ht=>?_) (fun ht=>?_)
  · have t1:=of_decide_eq_true ht
    refine wp_skip ?_
    refine Qh ?_
    refine wp_seq ?_
    refine wp_block ?_
    refine Qe hI [] [] [⟨some 0,none,15,pI (k:Int)⟩,⟨some 1,none,5,pI (k:Int)⟩] .z (.kkkk (.k .z)) rfl [0,1] (by kernel_rfl) ?_ .z (.kkkk (.ddk .z)) fun a w hI=>?_
    · exact⟨Qa (.tmp 3 rfl rfl) (.here 5 rfl),Qc (.tmp 5 rfl rfl) (.here 6 rfl),trivial⟩
    refine seq_D hI [] [] [⟨some 0,none,16,Qd 1 false A.length (fun i=>Qf (A.getD i []))⟩,⟨some 1,none,17,pI (k:Int)⟩,⟨some 2,none,18,Yb 1 false (Qf (A.getD k []))⟩,⟨some 3,none,19,Qf (A.getD k [])⟩,⟨some 4,none,20,Qd 1 false A.length (fun i=>Qi (A.getD i []))⟩,⟨some 5,none,21,pI (k:Int)⟩,⟨some 6,none,22,Yb 1 false (Qi (A.getD k []))⟩,⟨some 7,none,23,Qi (A.getD k [])⟩,⟨some 8,none,24,pB true⟩,⟨some 9,none,25,pB false⟩] .z (.kkkk (.k .z)) rfl [0,0,3,7,0,0,48,112,255,511] (by kernel_rfl) ?_ .z (.kkkk (.d8 (.ddk .z))) fun a w hI=>?_
    · exact⟨Qa (.tmp 0 rfl rfl) (.here 5 rfl),Qa (.tmp 4 rfl rfl) (.here 6 rfl),Qt (.tmp 5 rfl rfl) (.tmp 6 rfl rfl) Q8 (by omega) (by omega) (by kernel_rfl) (.at_ 7 _ _ rfl (by rw[Int.toNat_natCast]; exact fun _ _ h=>h)),Q5 (.tmp 7 rfl rfl) X0 ((Y3 _)) (.here 8 rfl),Qa (.tmp 1 rfl rfl) (.here 9 rfl),Qa (.tmp 4 rfl rfl) (.here 10 rfl),Qt (.tmp 9 rfl rfl) (.tmp 10 rfl rfl) Xo (by omega) (by omega) (by kernel_rfl) (.at_ 11 _ _ rfl (by rw[Int.toNat_natCast]; exact fun _ _ h=>h)),Q5 (.tmp 11 rfl rfl) J2 ((Zm _)) (.here 12 rfl),Kg (fun _ _=>by kernel_rfl) (.tmp 8 rfl rfl) (.tmp 12 rfl rfl) (.here 13 rfl) (c_Are (hA.2 k (by omega)) (hb k) hj),Wa (.tmp 13 rfl rfl) (.here 14 rfl),trivial⟩
    refine Yi hI 4 rfl ?_
    refine wp_skip ?_
    refine Yd ?_
    refine Qh ?_
    refine Y0 hI [] [] [⟨some 0,none,26,pI ((k:Int)+(1:Int))⟩,⟨some 1,none,13,pI ((k:Int)+(1:Int))⟩] .z (.kkk (.t 1 (.k .z))) rfl [0,1] (by kernel_rfl) ?_ .z (.kkkd (.ddk .z)) fun a w hI=>?_
    · exact⟨Qk (v:=.int .i64 (IntKind.i64.wrap ((k:Int)+(1:Int)))) (.tmp 3 rfl rfl) (.const _) (fun _=>rfl) (.at_ 5 _ _ rfl (X3 (by omega))),Qa (.tmp 5 rfl rfl) (.here 6 rfl),trivial⟩
    refine Qh ?_
    exact⟨k+1,⟨(show k+1≤A.length by omega),(hI.conv trivial ⟨⟨rfl,rfl,0,_,rfl,fun _ _ h=>h⟩,⟨rfl,rfl,1,_,rfl,fun _ _ h=>h⟩,⟨rfl,rfl,2,_,rfl,fun _ _ h=>h⟩,⟨rfl,rfl,3,_,rfl,(Q9 (by omega))⟩,trivial⟩)⟩,(show A.length-(k+1)<A.length-k by omega)⟩
  · have t2:=of_decide_eq_false ht
    refine wp_exit ?_
    refine Qv ?_
    refine Qv ?_
    refine Xt ?_
    refine Qh ?_
    refine Qe hI [] [] [⟨some 0,none,4,pB true⟩] .z (.kkkk (.k .z)) rfl [0] (by kernel_rfl) ?_ .z (.dddd (.dk .z)) fun a w hI=>?_
    · exact⟨Qc (.const _) (.here 5 rfl),trivial⟩
    refine wp_ret ?_
    exact Zr hI rfl (.tmp 0 rfl)
end Wx
