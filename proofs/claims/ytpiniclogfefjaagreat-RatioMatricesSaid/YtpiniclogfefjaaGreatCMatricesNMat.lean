import Derived.Test.YtpiniclogfefjaaGreatJMatrices37
import Derived.Test.YtpiniclogfefjaaGreatJMatrices39
namespace Wx
set_option maxRecDepth 100000
open Go Go.RowKit Go.Proofs
set_option linter.unusedVariables false

theorem K6 {A:List (List Rat)} (hA:A.length≤1000000):∀(M:Nat→Nat→Prop) (w:World) (v0:Value),Mid M w→Box M (fun w=>(Qd 1 false A.length (fun i=>Qi (A.getD i []))) w v0) w→Calls Tryz.prog 11 #[v0] w (RetB M (pI (chk A)) w):=by
  intro M w0 v0 hM hv0
  refine Q0 (N:=44) Tryz.func11 rfl rfl rfl hM (show EntsA M w0 [v0] [⟨none,none,0,Qd 1 false A.length (fun i=>Qi (A.getD i []))⟩]from⟨⟨rfl,_,rfl,hv0⟩,trivial⟩) fun a hI=>?_
  refine Qe hI [] [] [⟨some 0,none,2,pI 0⟩] .z (.k .z) rfl [0] (by kernel_rfl) ?_ .z (.kk .z) fun a w hI=>?_
  · exact⟨Qc (.const _) (.here 1 rfl),trivial⟩
  refine wp_seq ?_
  refine Qe hI [] [] [⟨some 0,none,4,Qd 1 false A.length (fun i=>Qi (A.getD i []))⟩,⟨some 1,none,5,pI (A.length:Int)⟩,⟨some 2,none,6,pB (decide ((A.length:Int)<(1:Int)))⟩,⟨some 3,none,7,pB (decide ((A.length:Int)<(1:Int)))⟩,⟨some 4,none,8,X2 ((decide ((A.length:Int)<(1:Int)))=false) (Qd 1 false A.length (fun i=>Qi (A.getD i [])))⟩,⟨some 5,none,9,X2 ((decide ((A.length:Int)<(1:Int)))=false) (pI (A.length:Int))⟩,⟨some 6,none,10,X2 ((decide ((A.length:Int)<(1:Int)))=false) (pB (decide ((A.length:Int)>(8:Int))))⟩,⟨some 7,none,11,pB ((decide ((A.length:Int)<(1:Int)))||(decide ((A.length:Int)>(8:Int))))⟩] .z (.kk .z) rfl [0,1,3,7,15,31,63,127] (by kernel_rfl) ?_ .z (.kkdd (.dddd (.dk .z))) fun a w hI=>?_
  · exact⟨Qa (.tmp 0 rfl rfl) (.here 2 rfl),Qz (.tmp 2 rfl rfl) (Xo).under (.here 3 rfl),Qk (v:=.bool (decide ((A.length:Int)<(1:Int)))) (.tmp 3 rfl rfl) (.const _) (fun _=>rfl) (.here 4 rfl),Qa (.tmp 4 rfl rfl) (.here 5 rfl),Xh 5 rfl rfl (fun hc=>Qa (.tmp 0 rfl rfl) (.sel hc 6 rfl)) (by kernel_rfl) (fun _=>.none (by kernel_rfl)) (fun hc=>.sel_no hc 6 rfl),Xh 5 rfl rfl (fun hc=>Qz (.sel (.tmp 6 rfl rfl) hc) (Xo).under (.sel hc 7 rfl)) (by kernel_rfl) (fun _=>.none (by kernel_rfl)) (fun hc=>.sel_no hc 7 rfl),Xh 5 rfl rfl (fun hc=>Qk (v:=.bool (decide ((A.length:Int)>(8:Int)))) (.sel (.tmp 7 rfl rfl) hc) (.const _) (fun _=>rfl) (.sel hc 8 rfl)) (by kernel_rfl) (fun _=>.none (by kernel_rfl)) (fun hc=>.sel_no hc 8 rfl),Yh (.tmp 5 rfl rfl) (fun h=>.imp (.const _) fun _ _ e=>by rw[h]; exact e) (fun h=>.imp (.sel (.tmp 8 rfl rfl) (h)) fun _ _ e=>by rw[h]; exact e) (.here 9 rfl),trivial⟩
  refine Xi hI 2 rfl (fun ht=>?_) (fun ht=>?_)
  · have t1:=ht
    refine Qe hI [] [] [⟨some 0,none,2,pI 4⟩] .z (.k (.t 0 (.k .z))) rfl [0] (by kernel_rfl) ?_ .z (.kddk .z) fun a w hI=>?_
    · exact⟨Qc (.const _) (.here 3 rfl),trivial⟩
    refine wp_ret ?_
    refine Xd ?_
    exact Zr hI rfl (.imp (.tmp 1 rfl) (Q9 ((wr_num t1).symm)))
  · have t2:=ht
    refine wp_skip ?_
    refine Qh ?_
    refine wp_seq ?_
    refine Qe hI [] [] [⟨some 0,none,3,pI 0⟩] .z (.kkk .z) rfl [0] (by kernel_rfl) ?_ .z (.kkdk .z) fun a w hI=>?_
    · exact⟨Qc (.const _) (.here 3 rfl),trivial⟩
    refine wp_block ?_
    refine Xw (fun(k:Nat) a w=>(k≤A.length∧∀q,q<k→rowBad A q=false)∧Inv ⟨44,w0,M,fun _=>False⟩ [] [] [⟨none,none,0,Qd 1 false A.length (fun i=>Qi (A.getD i []))⟩,⟨none,none,3,pI (k:Int)⟩] Ql a w) (fun(k:Nat)=>A.length-k) (0) ⟨⟨Nat.zero_le _,fun q hq=>by omega⟩,(hI.conv trivial ⟨⟨rfl,rfl,0,_,rfl,fun _ _ h=>h⟩,⟨rfl,rfl,2,_,rfl,(Q9 (by omega))⟩,trivial⟩)⟩ ?_
    intro k a w hIk
    obtain⟨hp,hI⟩:=hIk
    refine wp_seq ?_
    refine Qe hI [] [] [⟨some 0,none,12,pI (k:Int)⟩,⟨some 1,none,13,Qd 1 false A.length (fun i=>Qi (A.getD i []))⟩,⟨some 2,none,14,pI (A.length:Int)⟩,⟨some 3,none,15,pB (decide ((k:Int)<(A.length:Int)))⟩] .z (.kk .z) rfl [0,1,3,7] (by kernel_rfl) ?_ .z (.kkdd (.dk .z)) fun a w hI=>?_
    · exact⟨Qa (.tmp 1 rfl rfl) (.here 2 rfl),Qa (.tmp 0 rfl rfl) (.here 3 rfl),Qz (.tmp 3 rfl rfl) (Xo).under (.here 4 rfl),Qk (v:=.bool (decide ((k:Int)<(A.length:Int)))) (.tmp 2 rfl rfl) (.tmp 4 rfl rfl) (fun _=>rfl) (.here 5 rfl),trivial⟩
    refine Xi hI 2 rfl (fun ht=>?_) (fun ht=>?_)
    · have t3:=of_decide_eq_true ht
      refine wp_skip ?_
      refine Qh ?_
      refine wp_seq ?_
      refine wp_block ?_
      refine seq_D hI [] [] [⟨some 0,none,18,Qd 1 false A.length (fun i=>Qi (A.getD i []))⟩,⟨some 1,none,19,pI (k:Int)⟩,⟨some 2,none,20,Yb 1 false (Qi (A.getD k []))⟩,⟨some 3,none,21,Qi (A.getD k [])⟩,⟨some 4,none,22,pI ((A.getD k []).length:Int)⟩,⟨some 5,none,23,pB (decide (((A.getD k []).length:Int)<(1:Int)))⟩,⟨some 6,none,24,pB (decide (((A.getD k []).length:Int)<(1:Int)))⟩,⟨some 7,none,25,X2 ((decide (((A.getD k []).length:Int)<(1:Int)))=false) (Qd 1 false A.length (fun i=>Qi (A.getD i [])))⟩,⟨some 8,none,26,X2 ((decide (((A.getD k []).length:Int)<(1:Int)))=false) (pI (k:Int))⟩,⟨some 9,none,27,X2 ((decide (((A.getD k []).length:Int)<(1:Int)))=false) (Yb 1 false (Qi (A.getD k [])))⟩,⟨some 10,none,28,X2 ((decide (((A.getD k []).length:Int)<(1:Int)))=false) (Qi (A.getD k []))⟩,⟨some 11,none,29,X2 ((decide (((A.getD k []).length:Int)<(1:Int)))=false) (pI ((A.getD k []).length:Int))⟩,⟨some 12,none,30,X2 ((decide (((A.getD k []).length:Int)<(1:Int)))=false) (pB (decide (((A.getD k []).length:Int)>(8:Int))))⟩,⟨some 13,none,31,pB ((decide (((A.getD k []).length:Int)<(1:Int)))||(decide (((A.getD k []).length:Int)>(8:Int))))⟩,⟨some 14,none,32,pB ((decide (((A.getD k []).length:Int)<(1:Int)))||(decide (((A.getD k []).length:Int)>(8:Int))))⟩,⟨some 15,none,33,X2 (((decide (((A.getD k []).length:Int)<(1:Int)))||(decide (((A.getD k []).length:Int)>(8:Int))))=false) (Qd 1 false A.length (fun i=>Qi (A.getD i [])))⟩,⟨some 16,none,34,X2 (((decide (((A.getD k []).length:Int)<(1:Int)))||(decide (((A.getD k []).length:Int)>(8:Int))))=false) (pI (k:Int))⟩,⟨some 17,none,35,X2 (((decide (((A.getD k []).length:Int)<(1:Int)))||(decide (((A.getD k []).length:Int)>(8:Int))))=false) (Yb 1 false (Qi (A.getD k [])))⟩,⟨some 18,none,36,X2 (((decide (((A.getD k []).length:Int)<(1:Int)))||(decide (((A.getD k []).length:Int)>(8:Int))))=false) (Qi (A.getD k []))⟩,⟨some 19,none,37,X2 (((decide (((A.getD k []).length:Int)<(1:Int)))||(decide (((A.getD k []).length:Int)>(8:Int))))=false) (pI ((A.getD k []).length:Int))⟩,⟨some 20,none,38,X2 (((decide (((A.getD k []).length:Int)<(1:Int)))||(decide (((A.getD k []).length:Int)>(8:Int))))=false) (Qd 1 false A.length (fun i=>Qi (A.getD i [])))⟩,⟨some 21,none,39,X2 (((decide (((A.getD k []).length:Int)<(1:Int)))||(decide (((A.getD k []).length:Int)>(8:Int))))=false) (Yb 1 false (Qi (A.getD 0 [])))⟩,⟨some 22,none,40,X2 (((decide (((A.getD k []).length:Int)<(1:Int)))||(decide (((A.getD k []).length:Int)>(8:Int))))=false) (Qi (A.getD 0 []))⟩,⟨some 23,none,41,X2 (((decide (((A.getD k []).length:Int)<(1:Int)))||(decide (((A.getD k []).length:Int)>(8:Int))))=false) (pI ((A.getD 0 []).length:Int))⟩,⟨some 24,none,42,X2 (((decide (((A.getD k []).length:Int)<(1:Int)))||(decide (((A.getD k []).length:Int)>(8:Int))))=false) (pB (((A.getD k []).length:Int) != ((A.getD 0 []).length:Int)))⟩,⟨some 25,none,43,pB (((decide (((A.getD k []).length:Int)<(1:Int)))||(decide (((A.getD k []).length:Int)>(8:Int))))||(((A.getD k []).length:Int) != ((A.getD 0 []).length:Int)))⟩] .z (.kkk .z) rfl [0,0,3,7,15,31,63,127,127,511,1023,2047,4095,8191,16383,32767,32767,131071,262143,524287,32767,1081343,3178495,7372799,16777215,33554431] (by kernel_rfl) ?_ .z (.kkdd (.dddd (.ddkk (.kkkk (.ddkk (.k8 (.k .z))))))) fun a w hI=>?_
      · exact⟨Qa (.tmp 0 rfl rfl) (.here 3 rfl),Qa (.tmp 1 rfl rfl) (.here 4 rfl),Qt (.tmp 3 rfl rfl) (.tmp 4 rfl rfl) Xo (by omega) (by omega) (by kernel_rfl) (.at_ 5 _ _ rfl (by rw[Int.toNat_natCast]; exact fun _ _ h=>h)),Q5 (.tmp 5 rfl rfl) J2 ((Zm _)) (.here 6 rfl),Qz (.tmp 6 rfl rfl) (Zk).under (.here 7 rfl),Qk (v:=.bool (decide (((A.getD k []).length:Int)<(1:Int)))) (.tmp 7 rfl rfl) (.const _) (fun _=>rfl) (.here 8 rfl),Qa (.tmp 8 rfl rfl) (.here 9 rfl),Xh 9 rfl rfl (fun hc=>Qa (.tmp 0 rfl rfl) (.sel hc 10 rfl)) (by kernel_rfl) (fun _=>.none (by kernel_rfl)) (fun hc=>.sel_no hc 10 rfl),Xh 9 rfl rfl (fun hc=>Qa (.tmp 1 rfl rfl) (.sel hc 11 rfl)) (by kernel_rfl) (fun _=>.none (by kernel_rfl)) (fun hc=>.sel_no hc 11 rfl),Xh 9 rfl rfl (fun hc=>Qt (.sel (.tmp 10 rfl rfl) hc) (.sel (.tmp 11 rfl rfl) hc) Xo (by omega) (by omega) (by kernel_rfl) (.sel hc 12 rfl)) (by kernel_rfl) (fun _=>.none (by kernel_rfl)) (fun hc=>.sel_no hc 12 rfl),Xh 9 rfl rfl (fun hc=>Q5 (.sel (.tmp 12 rfl rfl) hc) J2 ((Zm _)) (.sel hc 13 rfl)) (by kernel_rfl) (fun _=>.none (by kernel_rfl)) (fun hc=>.sel_no hc 13 rfl),Xh 9 rfl rfl (fun hc=>Qz (.sel (.tmp 13 rfl rfl) hc) (Zk).under (.sel hc 14 rfl)) (by kernel_rfl) (fun _=>.none (by kernel_rfl)) (fun hc=>.sel_no hc 14 rfl),Xh 9 rfl rfl (fun hc=>Qk (v:=.bool (decide (((A.getD k []).length:Int)>(8:Int)))) (.sel (.tmp 14 rfl rfl) hc) (.const _) (fun _=>rfl) (.sel hc 15 rfl)) (by kernel_rfl) (fun _=>.none (by kernel_rfl)) (fun hc=>.sel_no hc 15 rfl),Yh (.tmp 9 rfl rfl) (fun h=>.imp (.const _) fun _ _ e=>by rw[h]; exact e) (fun h=>.imp (.sel (.tmp 15 rfl rfl) (h)) fun _ _ e=>by rw[h]; exact e) (.here 16 rfl),Qa (.tmp 16 rfl rfl) (.here 17 rfl),Xh 17 rfl rfl (fun hc=>Qa (.tmp 0 rfl rfl) (.sel hc 18 rfl)) (by kernel_rfl) (fun _=>.none (by kernel_rfl)) (fun hc=>.sel_no hc 18 rfl),Xh 17 rfl rfl (fun hc=>Qa (.tmp 1 rfl rfl) (.sel hc 19 rfl)) (by kernel_rfl) (fun _=>.none (by kernel_rfl)) (fun hc=>.sel_no hc 19 rfl),Xh 17 rfl rfl (fun hc=>Qt (.sel (.tmp 18 rfl rfl) hc) (.sel (.tmp 19 rfl rfl) hc) Xo (by omega) (by omega) (by kernel_rfl) (.sel hc 20 rfl)) (by kernel_rfl) (fun _=>.none (by kernel_rfl)) (fun hc=>.sel_no hc 20 rfl),Xh 17 rfl rfl (fun hc=>Q5 (.sel (.tmp 20 rfl rfl) hc) J2 ((Zm _)) (.sel hc 21 rfl)) (by kernel_rfl) (fun _=>.none (by kernel_rfl)) (fun hc=>.sel_no hc 21 rfl),Xh 17 rfl rfl (fun hc=>Qz (.sel (.tmp 21 rfl rfl) hc) (Zk).under (.sel hc 22 rfl)) (by kernel_rfl) (fun _=>.none (by kernel_rfl)) (fun hc=>.sel_no hc 22 rfl),Xh 17 rfl rfl (fun hc=>Qa (.tmp 0 rfl rfl) (.sel hc 23 rfl)) (by kernel_rfl) (fun _=>.none (by kernel_rfl)) (fun hc=>.sel_no hc 23 rfl),Xh 17 rfl rfl (fun hc=>Qt (.sel (.tmp 23 rfl rfl) hc) (.const _) Xo (by omega) (by omega) (by kernel_rfl) (.sel hc 24 rfl)) (by kernel_rfl) (fun _=>.none (by kernel_rfl)) (fun hc=>.sel_no hc 24 rfl),Xh 17 rfl rfl (fun hc=>Q5 (.sel (.tmp 24 rfl rfl) hc) J2 ((Zm _)) (.sel hc 25 rfl)) (by kernel_rfl) (fun _=>.none (by kernel_rfl)) (fun hc=>.sel_no hc 25 rfl),Xh 17 rfl rfl (fun hc=>Qz (.sel (.tmp 25 rfl rfl) hc) (Zk).under (.sel hc 26 rfl)) (by kernel_rfl) (fun _=>.none (by kernel_rfl)) (fun hc=>.sel_no hc 26 rfl),Xh 17 rfl rfl (fun hc=>Qk (v:=.bool ((((A.getD k []).length:Int) != ((A.getD 0 []).length:Int)))) (.sel (.tmp 22 rfl rfl) hc) (.sel (.tmp 26 rfl rfl) hc) (fun _=>rfl) (.sel hc 27 rfl)) (by kernel_rfl) (fun _=>.none (by kernel_rfl)) (fun hc=>.sel_no hc 27 rfl),Yh (.tmp 17 rfl rfl) (fun h=>.imp (.const _) fun _ _ e=>by rw[h]; exact e) (fun h=>.imp (.sel (.tmp 27 rfl rfl) (h)) fun _ _ e=>by rw[h]; exact e) (.here 28 rfl),trivial⟩
      refine Xi hI 18 rfl (fun ht=>?_) (fun ht=>?_)
      · have t4:=ht
        refine Qe hI [] [] [⟨some 0,none,2,pI 4⟩] .z (.k8 (.k8 (.kkk .z))) rfl [0] (by kernel_rfl) ?_ .z (.k8 (.k8 (.kkdk .z))) fun a w hI=>?_
        · exact⟨Qc (.const _) (.here 19 rfl),trivial⟩
        refine wp_ret ?_
        refine Jc ?_
        refine Xd ?_
        refine Xd ?_
        refine Jc ?_
        refine Xd ?_
        exact Zr hI rfl (.imp (.tmp 18 rfl) (Q9 ((wr_row (k:=k) (by omega) t4).symm)))
      · have t5:=ht
        refine wp_skip ?_
        refine Yd ?_
        refine Qh ?_
        refine Y0 hI [] [] [⟨some 0,none,16,pI (k:Int)⟩,⟨some 1,none,17,pI ((k:Int)+(1:Int))⟩,⟨some 2,none,3,pI ((k:Int)+(1:Int))⟩] .z (.k (.t 2 (.k8 (.k8 (.k .z))))) rfl [0,1,3] (by kernel_rfl) ?_ .z (.kdkk (.k8 (.kkkk (.kkdd (.dk .z))))) fun a w hI=>?_
        · exact⟨Qa (.tmp 1 rfl rfl) (.here 19 rfl),Qk (v:=.int .i64 (IntKind.i64.wrap ((k:Int)+(1:Int)))) (.tmp 19 rfl rfl) (.const _) (fun _=>rfl) (.at_ 20 _ _ rfl (X3 (by omega))),Qc (.tmp 20 rfl rfl) (.here 21 rfl),trivial⟩
        refine Qh ?_
        exact⟨k+1,⟨⟨by omega,fun q hq=>by rcases Nat.lt_or_ge q k with h|h; exact hp.2 q h; rw[show q=k by omega]; exact t5⟩,(hI.conv trivial ⟨⟨rfl,rfl,0,_,rfl,fun _ _ h=>h⟩,⟨rfl,rfl,17,_,rfl,(Q9 (by omega))⟩,trivial⟩)⟩,(show A.length-(k+1)<A.length-k by omega)⟩
    · have t6:=of_decide_eq_false ht
      refine wp_exit ?_
      refine Qv ?_
      refine Qv ?_
      refine Xt ?_
      refine Qh ?_
      refine Qe hI [] [] [⟨some 0,none,2,pI 0⟩] .z (.kkk .z) rfl [0] (by kernel_rfl) ?_ .z (.dddk .z) fun a w hI=>?_
      · exact⟨Qc (.const _) (.here 3 rfl),trivial⟩
      refine wp_ret ?_
      exact Zr hI rfl (.imp (.tmp 0 rfl) (Q9 ((wr_ok t2 (fun i hi=>hp.2 i (by omega))).symm)))
theorem cn_wrongSquare {A:List (List Rat)} (hA:A.length≤1000000) (hR:Right A):∀(M:Nat→Nat→Prop) (w:World) (v0:Value),Mid M w→Box M (fun w=>(Qd 1 false A.length (fun i=>Qi (A.getD i []))) w v0) w→Calls Tryz.prog 42 #[v0] w (RetB M (pI (Kp A)) w):=by
  intro M w0 v0 hM hv0
  have hr:=hR.rows
  refine Q0 (N:=16) Tryz.func42 rfl rfl rfl hM (show EntsA M w0 [v0] [⟨none,none,0,Qd 1 false A.length (fun i=>Qi (A.getD i []))⟩]from⟨⟨rfl,_,rfl,hv0⟩,trivial⟩) fun a hI=>?_
  refine Qe hI [] [] [⟨some 0,none,2,pI 0⟩] .z (.k .z) rfl [0] (by kernel_rfl) ?_ .z (.kk .z) fun a w hI=>?_
  · exact⟨Qc (.const _) (.here 1 rfl),trivial⟩
  refine wp_seq ?_
  refine Qe hI [] [] [⟨some 0,none,4,Qd 1 false A.length (fun i=>Qi (A.getD i []))⟩,⟨some 1,none,5,pI 0⟩,⟨some 2,none,3,pI 0⟩] .z (.kk .z) rfl [0,1,3] (by kernel_rfl) ?_ .z (.kkdd (.k .z)) fun a w hI=>?_
  · exact⟨Qa (.tmp 0 rfl rfl) (.here 2 rfl),Q3 (fun _ _=>by kernel_rfl) (.tmp 2 rfl rfl) (.here 3 rfl) ((by have h:=K6 hA; rw[Ul hR]at h; exact h)),Qc (.tmp 3 rfl rfl) (.here 4 rfl),trivial⟩
  refine Qe hI [] [] [⟨some 0,none,6,pI 0⟩,⟨some 1,none,7,pB false⟩] .z (.kkk .z) rfl [0,1] (by kernel_rfl) ?_ .z (.kkkd (.k .z)) fun a w hI=>?_
  · exact⟨Qa (.tmp 2 rfl rfl) (.here 3 rfl),Qk (v:=.bool (false)) (.tmp 3 rfl rfl) (.const _) (fun _=>rfl) (.here 4 rfl),trivial⟩
  refine Yi hI 3 rfl ?_
  refine wp_skip ?_
  refine Qh ?_
  refine wp_seq ?_
  refine Qe hI [] [] [⟨some 0,none,9,Qd 1 false A.length (fun i=>Qi (A.getD i []))⟩,⟨some 1,none,10,pI (A.length:Int)⟩,⟨some 2,none,11,Qd 1 false A.length (fun i=>Qi (A.getD i []))⟩,⟨some 3,none,12,Yb 1 false (Qi (A.getD 0 []))⟩,⟨some 4,none,13,Qi (A.getD 0 [])⟩,⟨some 5,none,14,pI ((A.getD 0 []).length:Int)⟩,⟨some 6,none,15,pB ((A.length:Int) != ((A.getD 0 []).length:Int))⟩] .z (.kkkk .z) rfl [0,1,3,7,15,31,63] (by kernel_rfl) ?_ .z (.dkdd (.dddd (.ddk .z))) fun a w hI=>?_
  · exact⟨Qa (.tmp 0 rfl rfl) (.here 4 rfl),Qz (.tmp 4 rfl rfl) (Xo).under (.here 5 rfl),Qa (.tmp 0 rfl rfl) (.here 6 rfl),Qt (.tmp 6 rfl rfl) (.const _) Xo (by omega) (by omega) (by kernel_rfl) (.here 7 rfl),Q5 (.tmp 7 rfl rfl) J2 ((Zm _)) (.here 8 rfl),Qz (.tmp 8 rfl rfl) (Zk).under (.here 9 rfl),Qk (v:=.bool (((A.length:Int) != ((A.getD 0 []).length:Int)))) (.tmp 5 rfl rfl) (.tmp 9 rfl rfl) (fun _=>rfl) (.here 10 rfl),trivial⟩
  refine Xi hI 1 rfl (fun ht=>?_) (fun ht=>?_)
  · have t1:=ht
    refine Qe hI [] [] [⟨some 0,none,2,pI 4⟩] .z (.t 0 (.k .z)) rfl [0] (by kernel_rfl) ?_ .z (.ddk .z) fun a w hI=>?_
    · exact⟨Qc (.const _) (.here 2 rfl),trivial⟩
    refine wp_ret ?_
    refine Xd ?_
    exact Zr hI rfl (.imp (.tmp 0 rfl) (Q9 ((Qa2 fun h=>by have:=h.2; simp[this]at t1).symm)))
  · have t2:=ht
    refine wp_skip ?_
    refine Qh ?_
    refine Qe hI [] [] [⟨some 0,none,2,pI 0⟩] .z (.t 0 (.k .z)) rfl [0] (by kernel_rfl) ?_ .z (.ddk .z) fun a w hI=>?_
    · exact⟨Qc (.const _) (.here 2 rfl),trivial⟩
    refine wp_ret ?_
    exact Zr hI rfl (.imp (.tmp 0 rfl) (Q9 ((Qa6 hR (by have:=bne_eq_false_iff_eq.1 t2; omega)).symm)))
theorem Qfd {A:List (List Rat)} (hA:A.length≤1000000) (hR:¬Right A):∀(M:Nat→Nat→Prop) (w:World) (v0:Value),Mid M w→Box M (fun w=>(Qd 1 false A.length (fun i=>Qi (A.getD i []))) w v0) w→Calls Tryz.prog 42 #[v0] w (RetB M (pI (Kp A)) w):=by
  intro M w0 v0 hM hv0
  refine Q0 (N:=16) Tryz.func42 rfl rfl rfl hM (show EntsA M w0 [v0] [⟨none,none,0,Qd 1 false A.length (fun i=>Qi (A.getD i []))⟩]from⟨⟨rfl,_,rfl,hv0⟩,trivial⟩) fun a hI=>?_
  refine Qe hI [] [] [⟨some 0,none,2,pI 0⟩] .z (.k .z) rfl [0] (by kernel_rfl) ?_ .z (.kk .z) fun a w hI=>?_
  · exact⟨Qc (.const _) (.here 1 rfl),trivial⟩
  refine wp_seq ?_
  refine Qe hI [] [] [⟨some 0,none,4,Qd 1 false A.length (fun i=>Qi (A.getD i []))⟩,⟨some 1,none,5,pI 4⟩,⟨some 2,none,3,pI 4⟩] .z (.kk .z) rfl [0,1,3] (by kernel_rfl) ?_ .z (.kkdd (.k .z)) fun a w hI=>?_
  · exact⟨Qa (.tmp 0 rfl rfl) (.here 2 rfl),Q3 (fun _ _=>by kernel_rfl) (.tmp 2 rfl rfl) (.here 3 rfl) ((by have h:=K6 hA; rw[Qbg hR]at h; exact h)),Qc (.tmp 3 rfl rfl) (.here 4 rfl),trivial⟩
  refine Qe hI [] [] [⟨some 0,none,6,pI 4⟩,⟨some 1,none,7,pB true⟩] .z (.kkk .z) rfl [0,1] (by kernel_rfl) ?_ .z (.kkkd (.k .z)) fun a w hI=>?_
  · exact⟨Qa (.tmp 2 rfl rfl) (.here 3 rfl),Qk (v:=.bool (true)) (.tmp 3 rfl rfl) (.const _) (fun _=>rfl) (.here 4 rfl),trivial⟩
  refine Zh hI 3 rfl ?_
  refine Qe hI [] [] [⟨some 0,none,8,pI 4⟩,⟨some 1,none,2,pI 4⟩] .z (.k (.t 1 (.kk .z))) rfl [0,1] (by kernel_rfl) ?_ .z (.kddd (.dk .z)) fun a w hI=>?_
  · exact⟨Qa (.tmp 2 rfl rfl) (.here 4 rfl),Qc (.tmp 4 rfl rfl) (.here 5 rfl),trivial⟩
  refine wp_ret ?_
  refine Xd ?_
  exact Zr hI rfl (.imp (.tmp 1 rfl) (Q9 (Qa2 fun h=>hR h.1).symm))
theorem Qck {A:List (List Rat)} (hA:A.length≤1000000):∀(M:Nat→Nat→Prop) (w:World) (v0:Value),Mid M w→Box M (fun w=>(Qd 1 false A.length (fun i=>Qi (A.getD i []))) w v0) w→Calls Tryz.prog 42 #[v0] w (RetB M (pI (Kp A)) w):=by
  by_cases h:Right A
  · exact cn_wrongSquare hA h
  · exact Qfd hA h
structure GI where
  k:Nat
  R:List (Option RowL)
  H:List Bk
theorem rn_zeros {n m:Nat} (hn:n≤1000000) (hm:m≤1000000):∀(M:Nat→Nat→Prop) (w:World) (v0 v1:Value),Mid M w→Box M (fun w=>(pI (n:Int)) w v0) w→Box M (fun w=>(pI (m:Int)) w v1) w→Calls Tryz.prog 50 #[v0,v1] w (RetO (fun l:GridL=>GridOk 3 true l.g n l.R (Zo m (fun _ _=>Wm 0)) l.H) (GridL.hd n) GridL.H w):=by
  intro M w0 v0 v1 hM hv0 hv1
  refine Jx (N:=33) Tryz.func50 rfl rfl rfl hM (show EntsA M w0 [v0,v1] [⟨none,none,0,pI (n:Int)⟩,⟨none,none,1,pI (m:Int)⟩]from⟨⟨rfl,_,rfl,hv0⟩,⟨rfl,_,rfl,hv1⟩,trivial⟩) fun a hI=>?_
  refine Qe hI [] [] [⟨some 0,none,4,Qp ((Value.slice none 0 0))⟩] .z (.kk .z) rfl [0] (by kernel_rfl) ?_ .z (.kkk .z) fun a w hI=>?_
  · exact⟨Qc (.const _) (.here 2 rfl),trivial⟩
  refine Qcp hI [⟨9,9,some 1,none,.obj,0,0,false,pMade 1 false n (Km (.slice none 0 0)),[]⟩] [] [⟨some 0,none,8,pI (n:Int)⟩] .z (.kkk .z) rfl [0,1,3] 2 (by kernel_rfl) ?_ (.k .z) (.kkkd .z) (fun a w hI=>hI.openMade 0 rfl (by kernel_rfl)) (⟨_,exL fun l hC a w hI=>Vg hI [] [⟨some 0,none,5,Qp (.slice (some ⟨l,0,none⟩) n n)⟩] (.k .z) (.kkkk .z) (by kernel_rfl) (Qc (.tmp 0 rfl rfl) (.here 4 rfl)) (.k .z) (.dkkk (.k .z)),
      rfl⟩) ?_
  · exact⟨Qa (.tmp 0 rfl rfl) (.here 3 rfl),Qeu (zv:=.slice none 0 0) (z:=[.slice none 0 0]) 0 rfl rfl rfl rfl rfl (by kernel_rfl) (.tmp 3 rfl rfl) (.tmp 3 rfl rfl) (Xo).under (by kernel_rfl) rfl rfl (by omega) (fun u hu=>by rw[List.mem_singleton.1 hu]; exact J3 _ _ _) (fun _=>rfl) (by omega) (.none (by kernel_rfl)),trivial⟩
  · rintro a w ⟨g,hC,hI⟩
    have hC:True:=hC
    refine wp_seq ?_
    refine Qe hI [] [] [⟨some 0,none,6,pI 0⟩] (.k .z) (.kkkk .z) rfl [0] (by kernel_rfl) ?_ (.k .z) (.kkkk (.k .z)) fun a w hI=>?_
    · exact⟨Qc (.const _) (.here 4 rfl),trivial⟩
    refine wp_block ?_
    refine Xw (fun(q:GI) a w=>(q.k≤n∧GridOk 3 true g n q.R (partX m q.k (fun _ _=>Wm 0)) q.H)∧Inv ⟨33,w0,M,fun _=>False⟩ [⟨9,9,none,none,.obj,0,0,false,Kj q.H,[]⟩] [] [⟨none,none,0,pI (n:Int)⟩,⟨none,none,1,pI (m:Int)⟩,⟨none,none,4,Qp ((Value.slice none 0 0))⟩,⟨none,none,5,Qp (.slice (some ⟨g,0,none⟩) n n)⟩,⟨none,none,6,pI (q.k:Int)⟩] Ql a w) (fun(q:GI)=>n-q.k) (⟨0,List.replicate n none,[⟨g,1,false,List.replicate n (Km (.slice none 0 0))⟩]⟩) ⟨⟨Nat.zero_le _,(grid_nil 3 true g n).congr fun i _=>part_zero i⟩,(hI.conv ⟨⟨0,_,_,rfl,⟨rfl,rfl,rfl⟩,rfl,fun _=>(fun _ _ h=>h)⟩,trivial⟩ ⟨⟨rfl,rfl,0,_,rfl,fun _ _ h=>h⟩,⟨rfl,rfl,1,_,rfl,fun _ _ h=>h⟩,⟨rfl,rfl,2,_,rfl,fun _ _ h=>h⟩,⟨rfl,rfl,3,_,rfl,fun _ _ h=>h⟩,⟨rfl,rfl,4,_,rfl,(Q9 rfl)⟩,trivial⟩)⟩ ?_
    intro q a w hIk
    obtain⟨⟨hk,hB⟩,hI⟩:=hIk
    refine wp_seq ?_
    refine Qe hI [] [] [⟨some 0,none,10,pI (q.k:Int)⟩,⟨some 1,none,11,pI (n:Int)⟩,⟨some 2,none,12,pB (decide ((q.k:Int)<(n:Int)))⟩] (.k .z) (.kkkk (.k .z)) rfl [0,1,3] (by kernel_rfl) ?_ (.k .z) (.kkkk (.kddk .z)) fun a w hI=>?_
    · exact⟨Qa (.tmp 4 rfl rfl) (.here 5 rfl),Qa (.tmp 0 rfl rfl) (.here 6 rfl),Qk (v:=.bool (decide ((q.k:Int)<(n:Int)))) (.tmp 5 rfl rfl) (.tmp 6 rfl rfl) (fun _=>rfl) (.here 7 rfl),trivial⟩
    refine Xi hI 5 rfl (fun ht=>?_) (fun ht=>?_)
    · have t1:=of_decide_eq_true ht
      refine wp_skip ?_
      refine Qh ?_
      refine wp_seq ?_
      refine wp_block ?_
      refine Qcp hI [⟨18,18,some 3,none,.obj,0,0,false,pNew q.H 3 true m W0,[]⟩] [] [⟨some 0,none,15,Qp (.slice (some ⟨g,0,none⟩) n n)⟩,⟨some 1,none,16,pI (q.k:Int)⟩,⟨some 2,none,17,pI (m:Int)⟩] (.u (some 3) [] .z) (.kkkk (.kk .z)) rfl [0,1,3,7,15,31] 4 (by kernel_rfl) ?_ (.d (.k .z)) (.kkkk (.kdkk (.d .z))) (fun a w hI=>hI.openNew 0 rfl (by kernel_rfl)) (⟨_,exL fun l hC a w hI=>Vg hI [] [⟨some 0,none,19,Qp (.pointer (some ⟨g,0+((q.k:Int)).toNat*1,none⟩))⟩] (.k .z) (.k8 .z) (by kernel_rfl) (Xn (.tmp 6 rfl rfl) (.tmp 7 rfl rfl) Xo (by omega) (by omega) (by kernel_rfl) (.here 8 rfl)) (.k .z) (.kkkk (.kkdd (.k .z))),
          _,exL fun l hC a w hI=>Vg hI [] [] (.u none [(0,Kj (Zw (appG q.H l.b 3 true (List.replicate m W0)) g q.k (Km l.hdr)))] .z) (.kkkk (.kkk .z)) (by kernel_rfl) (W7 (e:=⟨g,1,false,Vf q.R⟩) (idx:=q.k) (it:=Km l.hdr) 0 rfl rfl rfl (by kernel_rfl) 0 rfl (by kernel_rfl) (by kernel_rfl) rfl (.tmp 6 rfl rfl) (Qbv hB.top (hC.2.2.2 _ hB.top)) rfl (by rw[topsO_len,hB.len]; omega) (show 0+((q.k:Int)).toNat*1=q.k*1 by omega) J2 (.tmp 0 rfl rfl) (Qbz _ _ _)) (.s .o .z) (.dkkk (.kkd .z)),
          rfl⟩) ?_
      · exact⟨Qa (.tmp 3 rfl rfl) (.here 6 rfl),Qa (.tmp 4 rfl rfl) (.here 7 rfl),Qa (.tmp 1 rfl rfl) (.here 8 rfl),op_makeSliceG (n:=m) (it:=W0) (zv:=.agg #[.bool false,.slice none 0 0,.slice none 0 0]) (z:=[.bool false,.slice none 0 0,.slice none 0 0]) 0 rfl rfl rfl rfl (by kernel_rfl) rfl 1 rfl rfl rfl rfl rfl (by kernel_rfl) (.tmp 8 rfl rfl) (.tmp 8 rfl rfl) (Zk).under (by kernel_rfl) rfl rfl (by omega) (by simp[Yr]) (fun _=>trivial) (by omega) (.none (by kernel_rfl)),trivial⟩
      · rintro a w ⟨l,hC,hI⟩
        have hC:NewOk q.H m l:=hC
        refine Qe hI [] [] [⟨some 0,none,7,pI 0⟩] (.k .z) (.kkkk (.k .z)) rfl [0] (by kernel_rfl) ?_ (.k .z) (.kkkk (.kk .z)) fun a w hI=>?_
        · exact⟨Qc (.const _) (.here 5 rfl),trivial⟩
        refine wp_block ?_
        obtain⟨R2,eR2⟩:∃R2,R2=q.R.set q.k (some l):=⟨_,rfl⟩
        have hr:Wu R2 q.k=some l:=by rw[eR2,rowO_set (by rw[hB.len]; omega),if_pos rfl]
        have hP:=(hB.put (i:=q.k) (m:=m) (l:=List.replicate m W0) (by omega) (by rw[List.length_replicate]) hC).congr fun i _=>fill_start i
        rw[← eR2]at hP
        refine Xw (fun(q2:GI) a w=>(q2.k≤m∧GridOk 3 true g n R2 (V9 m (fun _ _=>Wm 0) q.k q2.k) q2.H)∧Inv ⟨33,w0,M,fun _=>False⟩ [⟨18,18,none,none,.obj,0,0,false,Kj q2.H,[]⟩] [] [⟨none,none,0,pI (n:Int)⟩,⟨none,none,1,pI (m:Int)⟩,⟨none,none,4,Qp ((Value.slice none 0 0))⟩,⟨none,none,5,Qp (.slice (some ⟨g,0,none⟩) n n)⟩,⟨none,none,6,pI (q.k:Int)⟩,⟨none,none,7,pI (q2.k:Int)⟩] Ql a w) (fun(q2:GI)=>m-q2.k) (⟨0,R2,Zw (appG q.H l.b 3 true (List.replicate m W0)) g q.k (Km l.hdr)⟩) ⟨⟨Nat.zero_le _,hP⟩,(hI.conv ⟨⟨0,_,_,rfl,⟨rfl,rfl,rfl⟩,rfl,fun _=>(fun _ _ h=>h)⟩,trivial⟩ ⟨⟨rfl,rfl,0,_,rfl,fun _ _ h=>h⟩,⟨rfl,rfl,1,_,rfl,fun _ _ h=>h⟩,⟨rfl,rfl,2,_,rfl,fun _ _ h=>h⟩,⟨rfl,rfl,3,_,rfl,fun _ _ h=>h⟩,⟨rfl,rfl,4,_,rfl,fun _ _ h=>h⟩,⟨rfl,rfl,5,_,rfl,(Q9 rfl)⟩,trivial⟩)⟩ ?_
        intro q2 a w hIk
        obtain⟨⟨hk2,hB2⟩,hI⟩:=hIk
        refine wp_seq ?_
        refine Qe hI [] [] [⟨some 0,none,20,pI (q2.k:Int)⟩,⟨some 1,none,21,pI (m:Int)⟩,⟨some 2,none,22,pB (decide ((q2.k:Int)<(m:Int)))⟩] (.k .z) (.kkkk (.kk .z)) rfl [0,1,3] (by kernel_rfl) ?_ (.k .z) (.kkkk (.kkdd (.k .z))) fun a w hI=>?_
        · exact⟨Qa (.tmp 5 rfl rfl) (.here 6 rfl),Qa (.tmp 1 rfl rfl) (.here 7 rfl),Qk (v:=.bool (decide ((q2.k:Int)<(m:Int)))) (.tmp 6 rfl rfl) (.tmp 7 rfl rfl) (fun _=>rfl) (.here 8 rfl),trivial⟩
        refine Xi hI 6 rfl (fun ht=>?_) (fun ht=>?_)
        · have t2:=of_decide_eq_true ht
          refine wp_skip ?_
          refine Qh ?_
          refine wp_seq ?_
          refine wp_block ?_
          obtain⟨hln,hlc,_⟩:=hC
          refine sem_D hI [] [] [⟨some 0,none,25,Qp (.slice (some ⟨g,0,none⟩) n n)⟩,⟨some 1,none,26,pI (q.k:Int)⟩,⟨some 2,none,27,Qp (.pointer (some ⟨g,0+((q.k:Int)).toNat*1,none⟩))⟩,⟨some 3,none,28,Qp (.slice (some ⟨l.b,0,none⟩) l.n l.cap)⟩,⟨some 4,none,29,pI (q2.k:Int)⟩,⟨some 5,none,30,Qw ((0:Int):Rat)⟩,⟨some 6,none,31,Qp (.pointer (some ⟨l.b,0+((q2.k:Int)).toNat*3,none⟩))⟩] (.u none [(7,Kj (Zw q2.H l.b q2.k (Wm ((0:Int):Rat))))] .z) (.kkkk (.kkk .z)) rfl [0,0,3,7,0,0,63,127] (by kernel_rfl) ?_ (.s .o .z) (.kkkk (.kkdd (.dddd (.dd .z)))) fun a w hI=>?_
          · exact⟨Qa (.tmp 3 rfl rfl) (.here 7 rfl),Qa (.tmp 4 rfl rfl) (.here 8 rfl),Xn (.tmp 7 rfl rfl) (.tmp 8 rfl rfl) Xo (by omega) (by omega) (by kernel_rfl) (.here 9 rfl),Zx (e:=⟨g,1,false,Vf R2⟩) (idx:=q.k) 0 rfl rfl rfl (by kernel_rfl) rfl (.tmp 9 rfl rfl) hB2.top rfl (hB2.hd (by omega) hr) (show 0+((q.k:Int)).toNat*1=q.k*1 by omega) J2 (.here 10 rfl),Qa (.tmp 5 rfl rfl) (.here 11 rfl),Zc (fun _ _=>by kernel_rfl) (Yl _) (.const _) (.here 12 rfl) (Qc4 0 (by omega) (by omega)),Xn (.tmp 10 rfl rfl) (.tmp 11 rfl rfl) Zk (by omega) (by omega) (by kernel_rfl) (.here 13 rfl),W7 (e:=⟨l.b,3,true,(V9 m (fun _ _=>Wm 0) q.k q2.k) q.k⟩) (idx:=q2.k) (it:=Wm (((0:Int):Rat))) 0 rfl rfl rfl (by kernel_rfl) 0 rfl (by kernel_rfl) (by kernel_rfl) rfl (.tmp 13 rfl rfl) (hB2.rows q.k l (by omega) hr).2.2.2.1 rfl (by rw[fill_len]; omega) (show 0+((q2.k:Int)).toNat*3=q2.k*3 by omega) Yw (.tmp 12 rfl rfl) (Yk _),trivial⟩
          refine Yd ?_
          refine Qh ?_
          refine Y0 hI [] [] [⟨some 0,none,23,pI (q2.k:Int)⟩,⟨some 1,none,24,pI ((q2.k:Int)+(1:Int))⟩,⟨some 2,none,7,pI ((q2.k:Int)+(1:Int))⟩] (.k .z) (.kkkk (.k (.t 2 .z))) rfl [0,1,3] (by kernel_rfl) ?_ (.k .z) (.kkkk (.kddd (.k .z))) fun a w hI=>?_
          · exact⟨Qa (.tmp 5 rfl rfl) (.here 6 rfl),Qk (v:=.int .i64 (IntKind.i64.wrap ((q2.k:Int)+(1:Int)))) (.tmp 6 rfl rfl) (.const _) (fun _=>rfl) (.at_ 7 _ _ rfl (X3 (by omega))),Qc (.tmp 7 rfl rfl) (.here 8 rfl),trivial⟩
          refine Qh ?_
          exact⟨⟨q2.k+1,R2,Zw q2.H l.b q2.k (Wm ((0:Int):Rat))⟩,⟨⟨by show q2.k+1≤m; omega,(hB2.set (k:=q2.k) (it:=Wm ((0:Int):Rat)) (by omega) hr).congr fun i _=>fill_step (f:=(fun _ _=>Wm 0)) (by omega) i⟩,(hI.conv ⟨⟨0,_,_,rfl,⟨rfl,rfl,rfl⟩,rfl,fun _=>fun _ _ h=>h⟩,trivial⟩ ⟨⟨rfl,rfl,0,_,rfl,fun _ _ h=>h⟩,⟨rfl,rfl,1,_,rfl,fun _ _ h=>h⟩,⟨rfl,rfl,2,_,rfl,fun _ _ h=>h⟩,⟨rfl,rfl,3,_,rfl,fun _ _ h=>h⟩,⟨rfl,rfl,4,_,rfl,fun _ _ h=>h⟩,⟨rfl,rfl,5,_,rfl,(Q9 (by show((q2.k:Int)+1)=((q2.k+1:Nat):Int); omega))⟩,trivial⟩)⟩,(show m-(q2.k+1)<m-q2.k by omega)⟩
        · have t3:=of_decide_eq_false ht
          refine wp_exit ?_
          refine Qv ?_
          refine Qv ?_
          refine Xt ?_
          refine Yd ?_
          refine Qh ?_
          refine Y0 hI [] [] [⟨some 0,none,13,pI (q.k:Int)⟩,⟨some 1,none,14,pI ((q.k:Int)+(1:Int))⟩,⟨some 2,none,6,pI ((q.k:Int)+(1:Int))⟩] (.k .z) (.kkkk (.t 2 (.kk .z))) rfl [0,1,3] (by kernel_rfl) ?_ (.k .z) (.kkkk (.dddd (.dk .z))) fun a w hI=>?_
          · exact⟨Qa (.tmp 4 rfl rfl) (.here 7 rfl),Qk (v:=.int .i64 (IntKind.i64.wrap ((q.k:Int)+(1:Int)))) (.tmp 7 rfl rfl) (.const _) (fun _=>rfl) (.at_ 8 _ _ rfl (X3 (by omega))),Qc (.tmp 8 rfl rfl) (.here 9 rfl),trivial⟩
          refine Qh ?_
          replace hI:=hI.reobj 9 9 (n0:=0) rfl (by kernel_rfl) (by kernel_rfl)
          exact⟨⟨q.k+1,R2,q2.H⟩,⟨⟨by show q.k+1≤n; omega,hB2.congr fun i _=>by rw[show q2.k=m by omega]; exact fill_end i⟩,(hI.conv ⟨⟨0,_,_,rfl,⟨rfl,rfl,rfl⟩,rfl,fun _=>fun _ _ h=>h⟩,trivial⟩ ⟨⟨rfl,rfl,0,_,rfl,fun _ _ h=>h⟩,⟨rfl,rfl,1,_,rfl,fun _ _ h=>h⟩,⟨rfl,rfl,2,_,rfl,fun _ _ h=>h⟩,⟨rfl,rfl,3,_,rfl,fun _ _ h=>h⟩,⟨rfl,rfl,4,_,rfl,(Q9 (by show((q.k:Int)+1)=((q.k+1:Nat):Int); omega))⟩,trivial⟩)⟩,(show n-(q.k+1)<n-q.k by omega)⟩
    · have t4:=of_decide_eq_false ht
      refine wp_exit ?_
      refine Qv ?_
      refine Qv ?_
      refine Xt ?_
      refine Qh ?_
      refine Qe hI [] [] [⟨some 0,none,32,Qp (.slice (some ⟨g,0,none⟩) n n)⟩,⟨some 1,none,4,Qp (.slice (some ⟨g,0,none⟩) n n)⟩] (.k .z) (.kk (.t 1 (.kkk .z))) rfl [0,1] (by kernel_rfl) ?_ (.k .z) (.dddd (.dddk .z)) fun a w hI=>?_
      · exact⟨Qa (.tmp 3 rfl rfl) (.here 6 rfl),Qc (.tmp 6 rfl rfl) (.here 7 rfl),trivial⟩
      refine wp_ret ?_
      exact finO1 (hd:=GridL.hd n) (Hl:=GridL.H) (⟨g,q.R,q.H⟩:GridL) (hB.congr fun i hi=>by rw[show q.k=n by omega]; exact part_end i hi) hI rfl (n0:=0) rfl (.tmp 0 rfl)
theorem sT_bits {j n J:Nat} (h:j<n) (hj:(n+1)*(J+1)≤2000000):1+j*(J+1)+J+(1+j*(J+1))+J+1≤10000000:=by
  have h1:=Nat.mul_le_mul_right (J+1) (show j+2≤n+1 by omega)
  have h2:(j+2)*(J+1)=j*(J+1)+(J+1)+(J+1):=by rw[Nat.add_mul]; omega
  omega
theorem bd_sT {A B:List (List Rat)} {j1 j2 i k:Nat} (hA:BdX j1 A) (hB:BdX j2 B):∀j,BdR (1+j*(j1+j2+1)) (sT A B i k j)
  |0=>by rw[Nat.zero_mul]; exact bd_zero
  |j+1=>((bd_sT hA hB j).add_t ((hA i j).mul (hB j k))).mono (by rw[Nat.succ_mul]; omega)
theorem tF_fin {A B:List (List Rat)} {i k:Nat} (hi:i<A.length) (hk:k<(B.getD 0 []).length) (hf:B.length=(A.getD 0 []).length) (hr:∀i,i<A.length→(A.getD i []).length=(A.getD 0 []).length):tF A B A.length 0 0 i k=Wm (((Kl A (Xr B)).getD i []).getD k 0):=by
  unfold tF
  rw[if_pos (by omega),Qce hi,Qd4 (by rw[Wr]; exact hk),U8 hk,hr i hi,← hf,sT_dot _ (Nat.le_refl _)]
theorem cn_Times_ok {A B:List (List Rat)} {j1 j2:Nat} (hA:Right A) (hB:Right B) (hf:B.length=(A.getD 0 []).length) (hAb:BdX j1 A) (hBb:BdX j2 B) (hj:(B.length+1)*(j1+j2+1)≤2000000):∀(M:Nat→Nat→Prop) (w:World) (v0 v1:Value),Mid M w→Box M (fun w=>(Qd 1 false A.length (fun i=>Qi (A.getD i []))) w v0) w→Box M (fun w=>(Qd 1 false B.length (fun i=>Qi (B.getD i []))) w v1) w→Calls Tryz.prog 15 #[v0,v1] w (RetB M (Xj (Qd 1 false A.length (fun i=>Qi ((Kl A (Xr B)).getD i []))) (pI 0)) w):=by
  intro M w0 v0 v1 hM hv0 hv1
  have hrA:=hA.rows
  have hcA:=hA.cols
  have hrB:=hB.rows
  have hcB:=hB.cols
  have hAr:=hA.rect
  have hBr:=hB.rect
  have hj1:j1+j2+1≤2000000:=Nat.le_trans (Nat.le_trans (Nat.le_of_eq (Nat.one_mul _).symm) (Nat.mul_le_mul_right _ (by omega))) hj
  refine Jx (N:=86) Tryz.func15 rfl rfl rfl hM (show EntsA M w0 [v0,v1] [⟨none,none,0,Qd 1 false A.length (fun i=>Qi (A.getD i []))⟩,⟨none,none,1,Qd 1 false B.length (fun i=>Qi (B.getD i []))⟩]from⟨⟨rfl,_,rfl,hv0⟩,⟨rfl,_,rfl,hv1⟩,trivial⟩) fun a hI=>?_
  refine Qe hI [] [] [⟨some 0,none,4,Qp ((Value.slice none 0 0))⟩,⟨some 1,none,5,pI 0⟩] .z (.kk .z) rfl [0,1] (by kernel_rfl) ?_ .z (.kkkk .z) fun a w hI=>?_
  · exact⟨Qc (.const _) (.here 2 rfl),Qc (.const _) (.here 3 rfl),trivial⟩
  refine wp_seq ?_
  refine Qe hI [] [] [⟨some 0,none,12,Qd 1 false A.length (fun i=>Qi (A.getD i []))⟩,⟨some 1,none,13,pI 0⟩,⟨some 2,none,6,pI 0⟩] .z (.kkkk .z) rfl [0,1,3] (by kernel_rfl) ?_ .z (.kkkk (.ddk .z)) fun a w hI=>?_
  · exact⟨Qa (.tmp 0 rfl rfl) (.here 4 rfl),Q3 (fun _ _=>by kernel_rfl) (.tmp 4 rfl rfl) (.here 5 rfl) ((by have h:=K6 (A:=A) (by omega); rw[Ul hA]at h; exact h)),Qc (.tmp 5 rfl rfl) (.here 6 rfl),trivial⟩
  refine Qe hI [] [] [⟨some 0,none,14,pI 0⟩,⟨some 1,none,15,pB false⟩] .z (.kkkk (.k .z)) rfl [0,1] (by kernel_rfl) ?_ .z (.kkkk (.kdk .z)) fun a w hI=>?_
  · exact⟨Qa (.tmp 4 rfl rfl) (.here 5 rfl),Qk (v:=.bool (false)) (.tmp 5 rfl rfl) (.const _) (fun _=>rfl) (.here 6 rfl),trivial⟩
  refine Yi hI 5 rfl ?_
  refine wp_skip ?_
  refine Qh ?_
  refine wp_seq ?_
  refine Qe hI [] [] [⟨some 0,none,17,Qd 1 false B.length (fun i=>Qi (B.getD i []))⟩,⟨some 1,none,18,pI 0⟩,⟨some 2,none,7,pI 0⟩] .z (.kkkk (.kk .z)) rfl [0,1,3] (by kernel_rfl) ?_ .z (.kkkk (.dddd (.k .z))) fun a w hI=>?_
  · exact⟨Qa (.tmp 1 rfl rfl) (.here 6 rfl),Q3 (fun _ _=>by kernel_rfl) (.tmp 6 rfl rfl) (.here 7 rfl) ((by have h:=K6 (A:=B) (by omega); rw[Ul hB]at h; exact h)),Qc (.tmp 7 rfl rfl) (.here 8 rfl),trivial⟩
  refine Qe hI [] [] [⟨some 0,none,19,pI 0⟩,⟨some 1,none,20,pB false⟩] .z (.kkkk (.k .z)) rfl [0,1] (by kernel_rfl) ?_ .z (.kkkk (.kdk .z)) fun a w hI=>?_
  · exact⟨Qa (.tmp 4 rfl rfl) (.here 5 rfl),Qk (v:=.bool (false)) (.tmp 5 rfl rfl) (.const _) (fun _=>rfl) (.here 6 rfl),trivial⟩
  refine Yi hI 5 rfl ?_
  refine wp_skip ?_
  refine Qh ?_
  refine wp_seq ?_
  refine Qe hI [] [] [⟨some 0,none,22,Qd 1 false B.length (fun i=>Qi (B.getD i []))⟩,⟨some 1,none,23,pI (B.length:Int)⟩,⟨some 2,none,24,Qd 1 false A.length (fun i=>Qi (A.getD i []))⟩,⟨some 3,none,25,Yb 1 false (Qi (A.getD 0 []))⟩,⟨some 4,none,26,Qi (A.getD 0 [])⟩,⟨some 5,none,27,pI ((A.getD 0 []).length:Int)⟩,⟨some 6,none,28,pB false⟩] .z (.kkkk (.kk .z)) rfl [0,1,3,7,15,31,63] (by kernel_rfl) ?_ .z (.kkkk (.d8 (.k .z))) fun a w hI=>?_
  · exact⟨Qa (.tmp 1 rfl rfl) (.here 6 rfl),Qz (.tmp 6 rfl rfl) (Xo).under (.here 7 rfl),Qa (.tmp 0 rfl rfl) (.here 8 rfl),Qt (.tmp 8 rfl rfl) (.const _) Xo (by omega) (by omega) (by kernel_rfl) (.here 9 rfl),Q5 (.tmp 9 rfl rfl) J2 ((Zm _)) (.here 10 rfl),Qz (.tmp 10 rfl rfl) (Zk).under (.here 11 rfl),Qk (v:=.bool (((B.length:Int) != ((A.getD 0 []).length:Int)))) (.tmp 7 rfl rfl) (.tmp 11 rfl rfl) (fun _=>rfl) (.at_ 12 _ _ rfl (Y4 ((by rw[hf]; exact bne_self_eq_false _)))),trivial⟩
  refine Yi hI 4 rfl ?_
  refine wp_skip ?_
  refine Qh ?_
  refine Qcp hI [] [] [⟨some 0,none,29,Qd 1 false A.length (fun i=>Qi (A.getD i []))⟩,⟨some 1,none,30,pI (A.length:Int)⟩,⟨some 2,none,31,Qd 1 false B.length (fun i=>Qi (B.getD i []))⟩,⟨some 3,none,32,Yb 1 false (Qi (B.getD 0 []))⟩,⟨some 4,none,33,Qi (B.getD 0 [])⟩,⟨some 5,none,34,pI ((B.getD 0 []).length:Int)⟩] .z (.kkkk (.k .z)) rfl [0,1,3,7,15,31,63,127] 6 (by kernel_rfl) ?_ .z (.kkkk (.ddkd (.ddk .z))) (fun a w hI=>hI) (⟨_,fun a w hI=>Qfl 35 (fun _ _=>by kernel_rfl) hI (.tmp 4 rfl rfl) (.tmp 5 rfl rfl) (fun M w v1 v2 hM h1 h2=>rn_zeros (n:=A.length) (m:=(B.getD 0 []).length) (by omega) (by omega) M w v1 v2 hM h1 h2) (by kernel_rfl) (by kernel_rfl) (by kernel_rfl),
      _,exL fun l hC a w hI=>Vg hI [] [⟨some 0,none,8,Qp (.slice (some ⟨l.g,0,none⟩) A.length A.length)⟩] (.k .z) (.kkkk (.kkk .z)) (by kernel_rfl) (Qc (.tmp 0 rfl rfl) (.here 7 rfl)) (.k .z) (.dkkk (.kddk .z)),
      rfl⟩) ?_
  · exact⟨Qa (.tmp 0 rfl rfl) (.here 5 rfl),Qz (.tmp 5 rfl rfl) (Xo).under (.here 6 rfl),Qa (.tmp 1 rfl rfl) (.here 7 rfl),Qt (.tmp 7 rfl rfl) (.const _) Xo (by omega) (by omega) (by kernel_rfl) (.here 8 rfl),Q5 (.tmp 8 rfl rfl) J2 ((Zm _)) (.here 9 rfl),Qz (.tmp 9 rfl rfl) (Zk).under (.here 10 rfl),trivial⟩
  · rintro a w ⟨z,hC,hI⟩
    have hC:GridOk 3 true z.g A.length z.R (Zo (B.getD 0 []).length (fun _ _=>Wm 0)) z.H:=hC
    refine wp_seq ?_
    refine Qe hI [] [] [⟨some 0,none,9,pI 0⟩] (.k .z) (.kkkk (.k .z)) rfl [0] (by kernel_rfl) ?_ (.k .z) (.kkkk (.kk .z)) fun a w hI=>?_
    · exact⟨Qc (.const _) (.here 5 rfl),trivial⟩
    refine wp_block ?_
    refine Xw (fun(q:GI) a w=>(q.k≤A.length∧GridOk 3 true z.g A.length z.R (Zo (B.getD 0 []).length (tF A B q.k 0 0)) q.H)∧Inv ⟨86,w0,M,fun _=>False⟩ [⟨35,35,none,none,.obj,0,0,false,Kj q.H,[]⟩] [] [⟨none,none,0,Qd 1 false A.length (fun i=>Qi (A.getD i []))⟩,⟨none,none,1,Qd 1 false B.length (fun i=>Qi (B.getD i []))⟩,⟨none,none,4,Qp ((Value.slice none 0 0))⟩,⟨none,none,5,pI 0⟩,⟨none,none,8,Qp (.slice (some ⟨z.g,0,none⟩) A.length A.length)⟩,⟨none,none,9,pI (q.k:Int)⟩] Ql a w) (fun(q:GI)=>A.length-q.k) (⟨0,z.R,z.H⟩) ⟨⟨Nat.zero_le _,hC.congr fun i _=>tF_zero i⟩,(hI.conv ⟨⟨0,_,_,rfl,⟨rfl,rfl,rfl⟩,rfl,fun _=>(fun _ _ h=>h)⟩,trivial⟩ ⟨⟨rfl,rfl,0,_,rfl,fun _ _ h=>h⟩,⟨rfl,rfl,1,_,rfl,fun _ _ h=>h⟩,⟨rfl,rfl,2,_,rfl,fun _ _ h=>h⟩,⟨rfl,rfl,3,_,rfl,fun _ _ h=>h⟩,⟨rfl,rfl,4,_,rfl,fun _ _ h=>h⟩,⟨rfl,rfl,5,_,rfl,(Q9 rfl)⟩,trivial⟩)⟩ ?_
    intro q a w hIk
    obtain⟨⟨hk,hB1⟩,hI⟩:=hIk
    refine wp_seq ?_
    refine Qe hI [] [] [⟨some 0,none,36,pI (q.k:Int)⟩,⟨some 1,none,37,Qd 1 false A.length (fun i=>Qi (A.getD i []))⟩,⟨some 2,none,38,pI (A.length:Int)⟩,⟨some 3,none,39,pB (decide ((q.k:Int)<(A.length:Int)))⟩] (.k .z) (.kkkk (.kk .z)) rfl [0,1,3,7] (by kernel_rfl) ?_ (.k .z) (.kkkk (.kkdd (.dk .z))) fun a w hI=>?_
    · exact⟨Qa (.tmp 5 rfl rfl) (.here 6 rfl),Qa (.tmp 0 rfl rfl) (.here 7 rfl),Qz (.tmp 7 rfl rfl) (Xo).under (.here 8 rfl),Qk (v:=.bool (decide ((q.k:Int)<(A.length:Int)))) (.tmp 6 rfl rfl) (.tmp 8 rfl rfl) (fun _=>rfl) (.here 9 rfl),trivial⟩
    refine Xi hI 6 rfl (fun ht=>?_) (fun ht=>?_)
    · have t1:=of_decide_eq_true ht
      refine wp_skip ?_
      refine Qh ?_
      refine wp_seq ?_
      refine wp_block ?_
      refine Qe hI [] [] [⟨some 0,none,10,pI 0⟩] (.k .z) (.kkkk (.kkk .z)) rfl [0] (by kernel_rfl) ?_ (.k .z) (.kkkk (.kkdk .z)) fun a w hI=>?_
      · exact⟨Qc (.const _) (.here 7 rfl),trivial⟩
      refine wp_block ?_
      refine Xw (fun(q2:GI) a w=>(q2.k≤(B.getD 0 []).length∧GridOk 3 true z.g A.length z.R (Zo (B.getD 0 []).length (tF A B q.k q2.k 0)) q2.H)∧Inv ⟨86,w0,M,fun _=>False⟩ [⟨35,35,none,none,.obj,0,0,false,Kj q2.H,[]⟩] [] [⟨none,none,0,Qd 1 false A.length (fun i=>Qi (A.getD i []))⟩,⟨none,none,1,Qd 1 false B.length (fun i=>Qi (B.getD i []))⟩,⟨none,none,4,Qp ((Value.slice none 0 0))⟩,⟨none,none,5,pI 0⟩,⟨none,none,8,Qp (.slice (some ⟨z.g,0,none⟩) A.length A.length)⟩,⟨none,none,9,pI (q.k:Int)⟩,⟨none,none,10,pI (q2.k:Int)⟩] Ql a w) (fun(q2:GI)=>(B.getD 0 []).length-q2.k) (⟨0,z.R,q.H⟩) ⟨⟨Nat.zero_le _,hB1⟩,(hI.conv ⟨⟨0,_,_,rfl,⟨rfl,rfl,rfl⟩,rfl,fun _=>(fun _ _ h=>h)⟩,trivial⟩ ⟨⟨rfl,rfl,0,_,rfl,fun _ _ h=>h⟩,⟨rfl,rfl,1,_,rfl,fun _ _ h=>h⟩,⟨rfl,rfl,2,_,rfl,fun _ _ h=>h⟩,⟨rfl,rfl,3,_,rfl,fun _ _ h=>h⟩,⟨rfl,rfl,4,_,rfl,fun _ _ h=>h⟩,⟨rfl,rfl,5,_,rfl,fun _ _ h=>h⟩,⟨rfl,rfl,6,_,rfl,(Q9 rfl)⟩,trivial⟩)⟩ ?_
      intro q2 a w hIk
      obtain⟨⟨hk2,hB2⟩,hI⟩:=hIk
      refine wp_seq ?_
      refine Qe hI [] [] [⟨some 0,none,42,pI (q2.k:Int)⟩,⟨some 1,none,43,Qd 1 false B.length (fun i=>Qi (B.getD i []))⟩,⟨some 2,none,44,Yb 1 false (Qi (B.getD 0 []))⟩,⟨some 3,none,45,Qi (B.getD 0 [])⟩,⟨some 4,none,46,pI ((B.getD 0 []).length:Int)⟩,⟨some 5,none,47,pB (decide ((q2.k:Int)<((B.getD 0 []).length:Int)))⟩] (.k .z) (.kkkk (.kkk .z)) rfl [0,1,3,7,15,31] (by kernel_rfl) ?_ (.k .z) (.kkkk (.kkkd (.dddd (.k .z)))) fun a w hI=>?_
      · exact⟨Qa (.tmp 6 rfl rfl) (.here 7 rfl),Qa (.tmp 1 rfl rfl) (.here 8 rfl),Qt (.tmp 8 rfl rfl) (.const _) Xo (by omega) (by omega) (by kernel_rfl) (.here 9 rfl),Q5 (.tmp 9 rfl rfl) J2 ((Zm _)) (.here 10 rfl),Qz (.tmp 10 rfl rfl) (Zk).under (.here 11 rfl),Qk (v:=.bool (decide ((q2.k:Int)<((B.getD 0 []).length:Int)))) (.tmp 7 rfl rfl) (.tmp 11 rfl rfl) (fun _=>rfl) (.here 12 rfl),trivial⟩
      refine Xi hI 7 rfl (fun ht=>?_) (fun ht=>?_)
      · have t2:=of_decide_eq_true ht
        refine wp_skip ?_
        refine Qh ?_
        refine wp_seq ?_
        refine wp_block ?_
        refine Qe hI [] [] [⟨some 0,none,11,pI 0⟩] (.k .z) (.k8 .z) rfl [0] (by kernel_rfl) ?_ (.k .z) (.kkkk (.kkkd (.k .z))) fun a w hI=>?_
        · exact⟨Qc (.const _) (.here 8 rfl),trivial⟩
        refine wp_block ?_
        refine Xw (fun(q3:GI) a w=>(q3.k≤B.length∧GridOk 3 true z.g A.length z.R (Zo (B.getD 0 []).length (tF A B q.k q2.k q3.k)) q3.H)∧Inv ⟨86,w0,M,fun _=>False⟩ [⟨35,35,none,none,.obj,0,0,false,Kj q3.H,[]⟩] [] [⟨none,none,0,Qd 1 false A.length (fun i=>Qi (A.getD i []))⟩,⟨none,none,1,Qd 1 false B.length (fun i=>Qi (B.getD i []))⟩,⟨none,none,4,Qp ((Value.slice none 0 0))⟩,⟨none,none,5,pI 0⟩,⟨none,none,8,Qp (.slice (some ⟨z.g,0,none⟩) A.length A.length)⟩,⟨none,none,9,pI (q.k:Int)⟩,⟨none,none,10,pI (q2.k:Int)⟩,⟨none,none,11,pI (q3.k:Int)⟩] Ql a w) (fun(q3:GI)=>B.length-q3.k) (⟨0,z.R,q2.H⟩) ⟨⟨Nat.zero_le _,hB2⟩,(hI.conv ⟨⟨0,_,_,rfl,⟨rfl,rfl,rfl⟩,rfl,fun _=>(fun _ _ h=>h)⟩,trivial⟩ ⟨⟨rfl,rfl,0,_,rfl,fun _ _ h=>h⟩,⟨rfl,rfl,1,_,rfl,fun _ _ h=>h⟩,⟨rfl,rfl,2,_,rfl,fun _ _ h=>h⟩,⟨rfl,rfl,3,_,rfl,fun _ _ h=>h⟩,⟨rfl,rfl,4,_,rfl,fun _ _ h=>h⟩,⟨rfl,rfl,5,_,rfl,fun _ _ h=>h⟩,⟨rfl,rfl,6,_,rfl,fun _ _ h=>h⟩,⟨rfl,rfl,7,_,rfl,(Q9 rfl)⟩,trivial⟩)⟩ ?_
        intro q3 a w hIk
        obtain⟨⟨hk3,hB3⟩,hI⟩:=hIk
        refine wp_seq ?_
        refine Qe hI [] [] [⟨some 0,none,50,pI (q3.k:Int)⟩,⟨some 1,none,51,Qd 1 false B.length (fun i=>Qi (B.getD i []))⟩,⟨some 2,none,52,pI (B.length:Int)⟩,⟨some 3,none,53,pB (decide ((q3.k:Int)<(B.length:Int)))⟩] (.k .z) (.k8 .z) rfl [0,1,3,7] (by kernel_rfl) ?_ (.k .z) (.k8 (.dddk .z)) fun a w hI=>?_
        · exact⟨Qa (.tmp 7 rfl rfl) (.here 8 rfl),Qa (.tmp 1 rfl rfl) (.here 9 rfl),Qz (.tmp 9 rfl rfl) (Xo).under (.here 10 rfl),Qk (v:=.bool (decide ((q3.k:Int)<(B.length:Int)))) (.tmp 8 rfl rfl) (.tmp 10 rfl rfl) (fun _=>rfl) (.here 11 rfl),trivial⟩
        refine Xi hI 8 rfl (fun ht=>?_) (fun ht=>?_)
        · have t3:=of_decide_eq_true ht
          refine wp_skip ?_
          refine Qh ?_
          refine wp_seq ?_
          refine wp_block ?_
          obtain⟨r,hr⟩:=hB3.at_ (i:=q.k) (by omega) (by rw[Kv]; omega)
          have hrn:=(hB3.rows q.k r (by omega) hr).1
          rw[Kv]at hrn
          have hra:=hAr q.k (by omega)
          have hrb:=hBr q3.k (by omega)
          refine sem_D hI [] [] [⟨some 0,none,56,Qp (.slice (some ⟨z.g,0,none⟩) A.length A.length)⟩,⟨some 1,none,57,pI (q.k:Int)⟩,⟨some 2,none,58,Qp (.pointer (some ⟨z.g,0+((q.k:Int)).toNat*1,none⟩))⟩,⟨some 3,none,59,Qp (.slice (some ⟨r.b,0,none⟩) r.n r.cap)⟩,⟨some 4,none,60,pI (q2.k:Int)⟩,⟨some 5,none,61,Qp (.slice (some ⟨z.g,0,none⟩) A.length A.length)⟩,⟨some 6,none,62,pI (q.k:Int)⟩,⟨some 7,none,63,Qp (.pointer (some ⟨z.g,0+((q.k:Int)).toNat*1,none⟩))⟩,⟨some 8,none,64,Qp (.slice (some ⟨r.b,0,none⟩) r.n r.cap)⟩,⟨some 9,none,65,pI (q2.k:Int)⟩,⟨some 10,none,66,Qp (.pointer (some ⟨r.b,0+((q2.k:Int)).toNat*3,none⟩))⟩,⟨some 11,none,67,Qw (sT A B q.k q2.k q3.k)⟩,⟨some 12,none,68,Qd 1 false A.length (fun i=>Qi (A.getD i []))⟩,⟨some 13,none,69,pI (q.k:Int)⟩,⟨some 14,none,70,Yb 1 false (Qi (A.getD q.k []))⟩,⟨some 15,none,71,Qi (A.getD q.k [])⟩,⟨some 16,none,72,pI (q3.k:Int)⟩,⟨some 17,none,73,Yb 3 true (Qw ((A.getD q.k []).getD q3.k 0))⟩,⟨some 18,none,74,Qw ((A.getD q.k []).getD q3.k 0)⟩,⟨some 19,none,75,Qd 1 false B.length (fun i=>Qi (B.getD i []))⟩,⟨some 20,none,76,pI (q3.k:Int)⟩,⟨some 21,none,77,Yb 1 false (Qi (B.getD q3.k []))⟩,⟨some 22,none,78,Qi (B.getD q3.k [])⟩,⟨some 23,none,79,pI (q2.k:Int)⟩,⟨some 24,none,80,Yb 3 true (Qw ((B.getD q3.k []).getD q2.k 0))⟩,⟨some 25,none,81,Qw ((B.getD q3.k []).getD q2.k 0)⟩,⟨some 26,none,82,Qw (((A.getD q.k []).getD q3.k 0)*((B.getD q3.k []).getD q2.k 0))⟩,⟨some 27,none,83,Qw ((sT A B q.k q2.k q3.k)+(((A.getD q.k []).getD q3.k 0)*((B.getD q3.k []).getD q2.k 0)))⟩,⟨some 28,none,84,Qp (.pointer (some ⟨r.b,0+((q2.k:Int)).toNat*3,none⟩))⟩] (.u none [(29,Kj (Zw q3.H r.b q2.k (Wm (sT A B q.k q2.k q3.k+(A.getD q.k []).getD q3.k 0*(B.getD q3.k []).getD q2.k 0))))] .z) (.k8 (.k .z)) rfl [0,0,3,7,0,0,0,96,224,0,992,2016,0,0,12288,28672,0,126976,258048,0,0,1572864,3670016,0,16252928,33030144,67104768,134217696,268435455,536870911] (by kernel_rfl) ?_ (.s .o .z) (.k8 (.d8 (.d8 (.d8 (.dddd (.dd .z)))))) fun a w hI=>?_
          · exact⟨Qa (.tmp 4 rfl rfl) (.here 9 rfl),Qa (.tmp 5 rfl rfl) (.here 10 rfl),Xn (.tmp 9 rfl rfl) (.tmp 10 rfl rfl) Xo (by omega) (by omega) (by kernel_rfl) (.here 11 rfl),Zx (e:=⟨z.g,1,false,Vf z.R⟩) (idx:=q.k) 0 rfl rfl rfl (by kernel_rfl) rfl (.tmp 11 rfl rfl) hB3.top rfl (hB3.hd (by omega) hr) (show 0+((q.k:Int)).toNat*1=q.k*1 by omega) J2 (.here 12 rfl),Qa (.tmp 6 rfl rfl) (.here 13 rfl),Qa (.tmp 4 rfl rfl) (.here 14 rfl),Qa (.tmp 5 rfl rfl) (.here 15 rfl),Xn (.tmp 14 rfl rfl) (.tmp 15 rfl rfl) Xo (by omega) (by omega) (by kernel_rfl) (.here 16 rfl),Zx (e:=⟨z.g,1,false,Vf z.R⟩) (idx:=q.k) 0 rfl rfl rfl (by kernel_rfl) rfl (.tmp 16 rfl rfl) hB3.top rfl (hB3.hd (by omega) hr) (show 0+((q.k:Int)).toNat*1=q.k*1 by omega) J2 (.here 17 rfl),Qa (.tmp 6 rfl rfl) (.here 18 rfl),Xn (.tmp 17 rfl rfl) (.tmp 18 rfl rfl) Zk (by omega) (by omega) (by kernel_rfl) (.here 19 rfl),Zx (e:=⟨r.b,3,true,Zo (B.getD 0 []).length (tF A B q.k q2.k q3.k) q.k⟩) (idx:=q2.k) 0 rfl rfl rfl (by kernel_rfl) rfl (.tmp 19 rfl rfl) (hB3.rows q.k r (by omega) hr).2.2.2.1 rfl ((Qc8 (by omega)).trans (congrArg some tF_at)) (show 0+((q2.k:Int)).toNat*3=q2.k*3 by omega) Yw (.here 20 rfl),Qa (.tmp 0 rfl rfl) (.here 21 rfl),Qa (.tmp 5 rfl rfl) (.here 22 rfl),Qt (.tmp 21 rfl rfl) (.tmp 22 rfl rfl) Xo (by omega) (by omega) (by kernel_rfl) (.at_ 23 _ _ rfl (by rw[Int.toNat_natCast]; exact fun _ _ h=>h)),Q5 (.tmp 23 rfl rfl) J2 ((Zm _)) (.here 24 rfl),Qa (.tmp 7 rfl rfl) (.here 25 rfl),Qt (.tmp 24 rfl rfl) (.tmp 25 rfl rfl) Zk (by omega) (by omega) (by kernel_rfl) (.at_ 26 _ _ rfl (by rw[Int.toNat_natCast]; exact fun _ _ h=>h)),Q5 (.tmp 26 rfl rfl) Yw (Yk _) (.here 27 rfl),Qa (.tmp 1 rfl rfl) (.here 28 rfl),Qa (.tmp 7 rfl rfl) (.here 29 rfl),Qt (.tmp 28 rfl rfl) (.tmp 29 rfl rfl) Xo (by omega) (by omega) (by kernel_rfl) (.at_ 30 _ _ rfl (by rw[Int.toNat_natCast]; exact fun _ _ h=>h)),Q5 (.tmp 30 rfl rfl) J2 ((Zm _)) (.here 31 rfl),Qa (.tmp 6 rfl rfl) (.here 32 rfl),Qt (.tmp 31 rfl rfl) (.tmp 32 rfl rfl) Zk (by omega) (by omega) (by kernel_rfl) (.at_ 33 _ _ rfl (by rw[Int.toNat_natCast]; exact fun _ _ h=>h)),Q5 (.tmp 33 rfl rfl) Yw (Yk _) (.here 34 rfl),Yf (fun _ _=>by kernel_rfl) (Yl _) (.tmp 27 rfl rfl) (.tmp 34 rfl rfl) (.here 35 rfl) (cn_mul (hAb q.k q3.k) (hBb q3.k q2.k) (by omega)),Yf (fun _ _=>by kernel_rfl) (Yl _) (.tmp 20 rfl rfl) (.tmp 35 rfl rfl) (.here 36 rfl) (cn_add (bd_sT hAb hBb q3.k) ((hAb q.k q3.k).mul (hBb q3.k q2.k)) (sT_bits (show q3.k<B.length by omega) hj)),Xn (.tmp 12 rfl rfl) (.tmp 13 rfl rfl) Zk (by omega) (by omega) (by kernel_rfl) (.here 37 rfl),W7 (e:=⟨r.b,3,true,Zo (B.getD 0 []).length (tF A B q.k q2.k q3.k) q.k⟩) (idx:=q2.k) (it:=Wm (sT A B q.k q2.k q3.k+(A.getD q.k []).getD q3.k 0*(B.getD q3.k []).getD q2.k 0)) 0 rfl rfl rfl (by kernel_rfl) 0 rfl (by kernel_rfl) (by kernel_rfl) rfl (.tmp 37 rfl rfl) (hB3.rows q.k r (by omega) hr).2.2.2.1 rfl (by rw[Kv]; omega) (show 0+((q2.k:Int)).toNat*3=q2.k*3 by omega) Yw (.tmp 36 rfl rfl) (Yk _),trivial⟩
          refine Yd ?_
          refine Qh ?_
          refine Y0 hI [] [] [⟨some 0,none,54,pI (q3.k:Int)⟩,⟨some 1,none,55,pI ((q3.k:Int)+(1:Int))⟩,⟨some 2,none,11,pI ((q3.k:Int)+(1:Int))⟩] (.k .z) (.kkkk (.kkk (.t 2 .z))) rfl [0,1,3] (by kernel_rfl) ?_ (.k .z) (.kkkk (.kkkd (.ddk .z))) fun a w hI=>?_
          · exact⟨Qa (.tmp 7 rfl rfl) (.here 8 rfl),Qk (v:=.int .i64 (IntKind.i64.wrap ((q3.k:Int)+(1:Int)))) (.tmp 8 rfl rfl) (.const _) (fun _=>rfl) (.at_ 9 _ _ rfl (X3 (by omega))),Qc (.tmp 9 rfl rfl) (.here 10 rfl),trivial⟩
          refine Qh ?_
          exact⟨⟨q3.k+1,z.R,Zw q3.H r.b q2.k (Wm (sT A B q.k q2.k q3.k+(A.getD q.k []).getD q3.k 0*(B.getD q3.k []).getD q2.k 0))⟩,⟨⟨by show q3.k+1≤B.length; omega,(hB3.set (k:=q2.k) (it:=Wm (sT A B q.k q2.k q3.k+(A.getD q.k []).getD q3.k 0*(B.getD q3.k []).getD q2.k 0)) (by omega) hr).congr fun i _=>(rectX_set i).trans (by rw[tF_step])⟩,(hI.conv ⟨⟨0,_,_,rfl,⟨rfl,rfl,rfl⟩,rfl,fun _=>fun _ _ h=>h⟩,trivial⟩ ⟨⟨rfl,rfl,0,_,rfl,fun _ _ h=>h⟩,⟨rfl,rfl,1,_,rfl,fun _ _ h=>h⟩,⟨rfl,rfl,2,_,rfl,fun _ _ h=>h⟩,⟨rfl,rfl,3,_,rfl,fun _ _ h=>h⟩,⟨rfl,rfl,4,_,rfl,fun _ _ h=>h⟩,⟨rfl,rfl,5,_,rfl,fun _ _ h=>h⟩,⟨rfl,rfl,6,_,rfl,fun _ _ h=>h⟩,⟨rfl,rfl,7,_,rfl,(Q9 (by show((q3.k:Int)+1)=((q3.k+1:Nat):Int); omega))⟩,trivial⟩)⟩,(show B.length-(q3.k+1)<B.length-q3.k by omega)⟩
        · have t4:=of_decide_eq_false ht
          refine wp_exit ?_
          refine Qv ?_
          refine Qv ?_
          refine Xt ?_
          refine Yd ?_
          refine Qh ?_
          refine Y0 hI [] [] [⟨some 0,none,48,pI (q2.k:Int)⟩,⟨some 1,none,49,pI ((q2.k:Int)+(1:Int))⟩,⟨some 2,none,10,pI ((q2.k:Int)+(1:Int))⟩] (.k .z) (.kkkk (.kk (.t 2 (.kk .z)))) rfl [0,1,3] (by kernel_rfl) ?_ (.k .z) (.kkkk (.kkdd (.dddk .z))) fun a w hI=>?_
          · exact⟨Qa (.tmp 6 rfl rfl) (.here 9 rfl),Qk (v:=.int .i64 (IntKind.i64.wrap ((q2.k:Int)+(1:Int)))) (.tmp 9 rfl rfl) (.const _) (fun _=>rfl) (.at_ 10 _ _ rfl (X3 (by omega))),Qc (.tmp 10 rfl rfl) (.here 11 rfl),trivial⟩
          refine Qh ?_
          exact⟨⟨q2.k+1,z.R,q3.H⟩,⟨⟨by show q2.k+1≤(B.getD 0 []).length; omega,by rw[show q3.k=B.length by omega,tF_next]at hB3; exact hB3⟩,(hI.conv ⟨⟨0,_,_,rfl,⟨rfl,rfl,rfl⟩,rfl,fun _=>fun _ _ h=>h⟩,trivial⟩ ⟨⟨rfl,rfl,0,_,rfl,fun _ _ h=>h⟩,⟨rfl,rfl,1,_,rfl,fun _ _ h=>h⟩,⟨rfl,rfl,2,_,rfl,fun _ _ h=>h⟩,⟨rfl,rfl,3,_,rfl,fun _ _ h=>h⟩,⟨rfl,rfl,4,_,rfl,fun _ _ h=>h⟩,⟨rfl,rfl,5,_,rfl,fun _ _ h=>h⟩,⟨rfl,rfl,6,_,rfl,(Q9 (by show((q2.k:Int)+1)=((q2.k+1:Nat):Int); omega))⟩,trivial⟩)⟩,(show(B.getD 0 []).length-(q2.k+1)<(B.getD 0 []).length-q2.k by omega)⟩
      · have t5:=of_decide_eq_false ht
        refine wp_exit ?_
        refine Qv ?_
        refine Qv ?_
        refine Xt ?_
        refine Yd ?_
        refine Qh ?_
        refine Y0 hI [] [] [⟨some 0,none,40,pI (q.k:Int)⟩,⟨some 1,none,41,pI ((q.k:Int)+(1:Int))⟩,⟨some 2,none,9,pI ((q.k:Int)+(1:Int))⟩] (.k .z) (.kkkk (.k (.t 2 (.kk .z)))) rfl [0,1,3] (by kernel_rfl) ?_ (.k .z) (.kkkk (.kddd (.ddk .z))) fun a w hI=>?_
        · exact⟨Qa (.tmp 5 rfl rfl) (.here 8 rfl),Qk (v:=.int .i64 (IntKind.i64.wrap ((q.k:Int)+(1:Int)))) (.tmp 8 rfl rfl) (.const _) (fun _=>rfl) (.at_ 9 _ _ rfl (X3 (by omega))),Qc (.tmp 9 rfl rfl) (.here 10 rfl),trivial⟩
        refine Qh ?_
        exact⟨⟨q.k+1,z.R,q2.H⟩,⟨⟨by show q.k+1≤A.length; omega,by rw[show q2.k=(B.getD 0 []).length by omega]at hB2; exact hB2.congr fun i _=>tF_row i⟩,(hI.conv ⟨⟨0,_,_,rfl,⟨rfl,rfl,rfl⟩,rfl,fun _=>fun _ _ h=>h⟩,trivial⟩ ⟨⟨rfl,rfl,0,_,rfl,fun _ _ h=>h⟩,⟨rfl,rfl,1,_,rfl,fun _ _ h=>h⟩,⟨rfl,rfl,2,_,rfl,fun _ _ h=>h⟩,⟨rfl,rfl,3,_,rfl,fun _ _ h=>h⟩,⟨rfl,rfl,4,_,rfl,fun _ _ h=>h⟩,⟨rfl,rfl,5,_,rfl,(Q9 (by show((q.k:Int)+1)=((q.k+1:Nat):Int); omega))⟩,trivial⟩)⟩,(show A.length-(q.k+1)<A.length-q.k by omega)⟩
    · have t6:=of_decide_eq_false ht
      refine wp_exit ?_
      refine Qv ?_
      refine Qv ?_
      refine Xt ?_
      refine Qh ?_
      refine Qe hI [] [] [⟨some 0,none,85,Qp (.slice (some ⟨z.g,0,none⟩) A.length A.length)⟩,⟨some 1,none,4,Qp (.slice (some ⟨z.g,0,none⟩) A.length A.length)⟩,⟨some 2,none,5,pI 0⟩] (.k .z) (.kk (.t 1 (.t 2 (.kkk .z)))) rfl [0,1,3] (by kernel_rfl) ?_ (.k .z) (.d8 (.kk .z)) fun a w hI=>?_
      · exact⟨Qa (.tmp 4 rfl rfl) (.here 7 rfl),Qc (.tmp 7 rfl rfl) (.here 8 rfl),Qc (.const _) (.here 9 rfl),trivial⟩
      refine wp_ret ?_
      exact finObj2 hI rfl (n0:=0) rfl (.tmp 0 rfl) (.tmp 1 rfl) (p:=Qd 1 false A.length (fun i=>Qi ((Kl A (Xr B)).getD i []))) (fun B' w hH=>grid_refs (fun i hi=>by rw[Qce hi,Qbq,Wr]) (fun i k hi hk=>by rw[show q.k=A.length by omega]; exact tF_fin hi hk hf hAr) w _ (hB1.read (Nat.le_refl _) (by omega) B' w hH))
theorem cn_Times_no1 {A B:List (List Rat)} (hAl:A.length≤1000000) (hBl:B.length≤1000000) (hA:¬Right A):∀(M:Nat→Nat→Prop) (w:World) (v0 v1:Value),Mid M w→Box M (fun w=>(Qd 1 false A.length (fun i=>Qi (A.getD i []))) w v0) w→Box M (fun w=>(Qd 1 false B.length (fun i=>Qi (B.getD i []))) w v1) w→Calls Tryz.prog 15 #[v0,v1] w (RetB M (Xj (Qp (.slice none 0 0)) (pI 4)) w):=by
  intro M w0 v0 v1 hM hv0 hv1
  refine Q0 (N:=86) Tryz.func15 rfl rfl rfl hM (show EntsA M w0 [v0,v1] [⟨none,none,0,Qd 1 false A.length (fun i=>Qi (A.getD i []))⟩,⟨none,none,1,Qd 1 false B.length (fun i=>Qi (B.getD i []))⟩]from⟨⟨rfl,_,rfl,hv0⟩,⟨rfl,_,rfl,hv1⟩,trivial⟩) fun a hI=>?_
  refine Qe hI [] [] [⟨some 0,none,4,Qp ((Value.slice none 0 0))⟩,⟨some 1,none,5,pI 0⟩] .z (.kk .z) rfl [0,1] (by kernel_rfl) ?_ .z (.kkkk .z) fun a w hI=>?_
  · exact⟨Qc (.const _) (.here 2 rfl),Qc (.const _) (.here 3 rfl),trivial⟩
  refine wp_seq ?_
  refine Qe hI [] [] [⟨some 0,none,12,Qd 1 false A.length (fun i=>Qi (A.getD i []))⟩,⟨some 1,none,13,pI 4⟩,⟨some 2,none,6,pI 4⟩] .z (.kkkk .z) rfl [0,1,3] (by kernel_rfl) ?_ .z (.kkkk (.ddk .z)) fun a w hI=>?_
  · exact⟨Qa (.tmp 0 rfl rfl) (.here 4 rfl),Q3 (fun _ _=>by kernel_rfl) (.tmp 4 rfl rfl) (.here 5 rfl) ((by have h:=K6 (A:=A) hAl; rw[Qbg hA]at h; exact h)),Qc (.tmp 5 rfl rfl) (.here 6 rfl),trivial⟩
  refine Qe hI [] [] [⟨some 0,none,14,pI 4⟩,⟨some 1,none,15,pB true⟩] .z (.kkkk (.k .z)) rfl [0,1] (by kernel_rfl) ?_ .z (.kkkk (.kdk .z)) fun a w hI=>?_
  · exact⟨Qa (.tmp 4 rfl rfl) (.here 5 rfl),Qk (v:=.bool (true)) (.tmp 5 rfl rfl) (.const _) (fun _=>rfl) (.here 6 rfl),trivial⟩
  refine Zh hI 5 rfl ?_
  refine Qe hI [] [] [⟨some 0,none,16,pI 4⟩,⟨some 1,none,4,Qp ((Value.slice none 0 0))⟩,⟨some 2,none,5,pI 4⟩] .z (.kk (.t 1 (.t 2 (.kk .z)))) rfl [0,1,3] (by kernel_rfl) ?_ .z (.kkdd (.dddk (.k .z))) fun a w hI=>?_
  · exact⟨Qa (.tmp 4 rfl rfl) (.here 6 rfl),Qc (.const _) (.here 7 rfl),Qc (.tmp 6 rfl rfl) (.here 8 rfl),trivial⟩
  refine wp_ret ?_
  refine Xd ?_
  exact K5 hI rfl (.tmp 2 rfl) (.tmp 3 rfl)
theorem cn_Times_no2 {A B:List (List Rat)} (hAl:A.length≤1000000) (hBl:B.length≤1000000) (hA:Right A) (hB:¬Right B):∀(M:Nat→Nat→Prop) (w:World) (v0 v1:Value),Mid M w→Box M (fun w=>(Qd 1 false A.length (fun i=>Qi (A.getD i []))) w v0) w→Box M (fun w=>(Qd 1 false B.length (fun i=>Qi (B.getD i []))) w v1) w→Calls Tryz.prog 15 #[v0,v1] w (RetB M (Xj (Qp (.slice none 0 0)) (pI 4)) w):=by
  intro M w0 v0 v1 hM hv0 hv1
  refine Q0 (N:=86) Tryz.func15 rfl rfl rfl hM (show EntsA M w0 [v0,v1] [⟨none,none,0,Qd 1 false A.length (fun i=>Qi (A.getD i []))⟩,⟨none,none,1,Qd 1 false B.length (fun i=>Qi (B.getD i []))⟩]from⟨⟨rfl,_,rfl,hv0⟩,⟨rfl,_,rfl,hv1⟩,trivial⟩) fun a hI=>?_
  refine Qe hI [] [] [⟨some 0,none,4,Qp ((Value.slice none 0 0))⟩,⟨some 1,none,5,pI 0⟩] .z (.kk .z) rfl [0,1] (by kernel_rfl) ?_ .z (.kkkk .z) fun a w hI=>?_
  · exact⟨Qc (.const _) (.here 2 rfl),Qc (.const _) (.here 3 rfl),trivial⟩
  refine wp_seq ?_
  refine Qe hI [] [] [⟨some 0,none,12,Qd 1 false A.length (fun i=>Qi (A.getD i []))⟩,⟨some 1,none,13,pI 0⟩,⟨some 2,none,6,pI 0⟩] .z (.kkkk .z) rfl [0,1,3] (by kernel_rfl) ?_ .z (.kkkk (.ddk .z)) fun a w hI=>?_
  · exact⟨Qa (.tmp 0 rfl rfl) (.here 4 rfl),Q3 (fun _ _=>by kernel_rfl) (.tmp 4 rfl rfl) (.here 5 rfl) ((by have h:=K6 (A:=A) hAl; rw[Ul hA]at h; exact h)),Qc (.tmp 5 rfl rfl) (.here 6 rfl),trivial⟩
  refine Qe hI [] [] [⟨some 0,none,14,pI 0⟩,⟨some 1,none,15,pB false⟩] .z (.kkkk (.k .z)) rfl [0,1] (by kernel_rfl) ?_ .z (.kkkk (.kdk .z)) fun a w hI=>?_
  · exact⟨Qa (.tmp 4 rfl rfl) (.here 5 rfl),Qk (v:=.bool (false)) (.tmp 5 rfl rfl) (.const _) (fun _=>rfl) (.here 6 rfl),trivial⟩
  refine Yi hI 5 rfl ?_
  refine wp_skip ?_
  refine Qh ?_
  refine wp_seq ?_
  refine Qe hI [] [] [⟨some 0,none,17,Qd 1 false B.length (fun i=>Qi (B.getD i []))⟩,⟨some 1,none,18,pI 4⟩,⟨some 2,none,7,pI 4⟩] .z (.kkkk (.kk .z)) rfl [0,1,3] (by kernel_rfl) ?_ .z (.kkkk (.dddd (.k .z))) fun a w hI=>?_
  · exact⟨Qa (.tmp 1 rfl rfl) (.here 6 rfl),Q3 (fun _ _=>by kernel_rfl) (.tmp 6 rfl rfl) (.here 7 rfl) ((by have h:=K6 (A:=B) hBl; rw[Qbg hB]at h; exact h)),Qc (.tmp 7 rfl rfl) (.here 8 rfl),trivial⟩
  refine Qe hI [] [] [⟨some 0,none,19,pI 4⟩,⟨some 1,none,20,pB true⟩] .z (.kkkk (.k .z)) rfl [0,1] (by kernel_rfl) ?_ .z (.kkkk (.kdk .z)) fun a w hI=>?_
  · exact⟨Qa (.tmp 4 rfl rfl) (.here 5 rfl),Qk (v:=.bool (true)) (.tmp 5 rfl rfl) (.const _) (fun _=>rfl) (.here 6 rfl),trivial⟩
  refine Zh hI 5 rfl ?_
  refine Qe hI [] [] [⟨some 0,none,21,pI 4⟩,⟨some 1,none,4,Qp ((Value.slice none 0 0))⟩,⟨some 2,none,5,pI 4⟩] .z (.kk (.t 1 (.t 2 (.kk .z)))) rfl [0,1,3] (by kernel_rfl) ?_ .z (.kkdd (.dddk (.k .z))) fun a w hI=>?_
  · exact⟨Qa (.tmp 4 rfl rfl) (.here 6 rfl),Qc (.const _) (.here 7 rfl),Qc (.tmp 6 rfl rfl) (.here 8 rfl),trivial⟩
  refine wp_ret ?_
  refine Xd ?_
  exact K5 hI rfl (.tmp 2 rfl) (.tmp 3 rfl)
theorem cn_Times_no3 {A B:List (List Rat)} (hAl:A.length≤1000000) (hBl:B.length≤1000000) (hA:Right A) (hB:Right B) (hf:B.length≠(A.getD 0 []).length):∀(M:Nat→Nat→Prop) (w:World) (v0 v1:Value),Mid M w→Box M (fun w=>(Qd 1 false A.length (fun i=>Qi (A.getD i []))) w v0) w→Box M (fun w=>(Qd 1 false B.length (fun i=>Qi (B.getD i []))) w v1) w→Calls Tryz.prog 15 #[v0,v1] w (RetB M (Xj (Qp (.slice none 0 0)) (pI 4)) w):=by
  intro M w0 v0 v1 hM hv0 hv1
  have hrA:=hA.rows
  refine Q0 (N:=86) Tryz.func15 rfl rfl rfl hM (show EntsA M w0 [v0,v1] [⟨none,none,0,Qd 1 false A.length (fun i=>Qi (A.getD i []))⟩,⟨none,none,1,Qd 1 false B.length (fun i=>Qi (B.getD i []))⟩]from⟨⟨rfl,_,rfl,hv0⟩,⟨rfl,_,rfl,hv1⟩,trivial⟩) fun a hI=>?_
  refine Qe hI [] [] [⟨some 0,none,4,Qp ((Value.slice none 0 0))⟩,⟨some 1,none,5,pI 0⟩] .z (.kk .z) rfl [0,1] (by kernel_rfl) ?_ .z (.kkkk .z) fun a w hI=>?_
  · exact⟨Qc (.const _) (.here 2 rfl),Qc (.const _) (.here 3 rfl),trivial⟩
  refine wp_seq ?_
  refine Qe hI [] [] [⟨some 0,none,12,Qd 1 false A.length (fun i=>Qi (A.getD i []))⟩,⟨some 1,none,13,pI 0⟩,⟨some 2,none,6,pI 0⟩] .z (.kkkk .z) rfl [0,1,3] (by kernel_rfl) ?_ .z (.kkkk (.ddk .z)) fun a w hI=>?_
  · exact⟨Qa (.tmp 0 rfl rfl) (.here 4 rfl),Q3 (fun _ _=>by kernel_rfl) (.tmp 4 rfl rfl) (.here 5 rfl) ((by have h:=K6 (A:=A) hAl; rw[Ul hA]at h; exact h)),Qc (.tmp 5 rfl rfl) (.here 6 rfl),trivial⟩
  refine Qe hI [] [] [⟨some 0,none,14,pI 0⟩,⟨some 1,none,15,pB false⟩] .z (.kkkk (.k .z)) rfl [0,1] (by kernel_rfl) ?_ .z (.kkkk (.kdk .z)) fun a w hI=>?_
  · exact⟨Qa (.tmp 4 rfl rfl) (.here 5 rfl),Qk (v:=.bool (false)) (.tmp 5 rfl rfl) (.const _) (fun _=>rfl) (.here 6 rfl),trivial⟩
  refine Yi hI 5 rfl ?_
  refine wp_skip ?_
  refine Qh ?_
  refine wp_seq ?_
  refine Qe hI [] [] [⟨some 0,none,17,Qd 1 false B.length (fun i=>Qi (B.getD i []))⟩,⟨some 1,none,18,pI 0⟩,⟨some 2,none,7,pI 0⟩] .z (.kkkk (.kk .z)) rfl [0,1,3] (by kernel_rfl) ?_ .z (.kkkk (.dddd (.k .z))) fun a w hI=>?_
  · exact⟨Qa (.tmp 1 rfl rfl) (.here 6 rfl),Q3 (fun _ _=>by kernel_rfl) (.tmp 6 rfl rfl) (.here 7 rfl) ((by have h:=K6 (A:=B) hBl; rw[Ul hB]at h; exact h)),Qc (.tmp 7 rfl rfl) (.here 8 rfl),trivial⟩
  refine Qe hI [] [] [⟨some 0,none,19,pI 0⟩,⟨some 1,none,20,pB false⟩] .z (.kkkk (.k .z)) rfl [0,1] (by kernel_rfl) ?_ .z (.kkkk (.kdk .z)) fun a w hI=>?_
  · exact⟨Qa (.tmp 4 rfl rfl) (.here 5 rfl),Qk (v:=.bool (false)) (.tmp 5 rfl rfl) (.const _) (fun _=>rfl) (.here 6 rfl),trivial⟩
  refine Yi hI 5 rfl ?_
  refine wp_skip ?_
  refine Qh ?_
  refine wp_seq ?_
  refine Qe hI [] [] [⟨some 0,none,22,Qd 1 false B.length (fun i=>Qi (B.getD i []))⟩,⟨some 1,none,23,pI (B.length:Int)⟩,⟨some 2,none,24,Qd 1 false A.length (fun i=>Qi (A.getD i []))⟩,⟨some 3,none,25,Yb 1 false (Qi (A.getD 0 []))⟩,⟨some 4,none,26,Qi (A.getD 0 [])⟩,⟨some 5,none,27,pI ((A.getD 0 []).length:Int)⟩,⟨some 6,none,28,pB true⟩] .z (.kkkk (.kk .z)) rfl [0,1,3,7,15,31,63] (by kernel_rfl) ?_ .z (.kkkk (.d8 (.k .z))) fun a w hI=>?_
  · exact⟨Qa (.tmp 1 rfl rfl) (.here 6 rfl),Qz (.tmp 6 rfl rfl) (Xo).under (.here 7 rfl),Qa (.tmp 0 rfl rfl) (.here 8 rfl),Qt (.tmp 8 rfl rfl) (.const _) Xo (by omega) (by omega) (by kernel_rfl) (.here 9 rfl),Q5 (.tmp 9 rfl rfl) J2 ((Zm _)) (.here 10 rfl),Qz (.tmp 10 rfl rfl) (Zk).under (.here 11 rfl),Qk (v:=.bool (((B.length:Int) != ((A.getD 0 []).length:Int)))) (.tmp 7 rfl rfl) (.tmp 11 rfl rfl) (fun _=>rfl) (.at_ 12 _ _ rfl (Y4 ((bne_iff_ne.2 (by omega))))),trivial⟩
  refine Zh hI 4 rfl ?_
  refine Qe hI [] [] [⟨some 0,none,4,Qp ((Value.slice none 0 0))⟩,⟨some 1,none,5,pI 4⟩] .z (.kk (.t 0 (.t 1 (.k .z)))) rfl [0,1] (by kernel_rfl) ?_ .z (.kkdd (.dkk .z)) fun a w hI=>?_
  · exact⟨Qc (.const _) (.here 5 rfl),Qc (.const _) (.here 6 rfl),trivial⟩
  refine wp_ret ?_
  refine Xd ?_
  exact K5 hI rfl (.tmp 2 rfl) (.tmp 3 rfl)
theorem uF_fin {A:List (List Rat)} {i k:Nat} (hi:i<(A.getD 0 []).length) (hk:k<A.length):uF A A.length 0 i k=Wm (((Xr A).getD i []).getD k 0):=by
  unfold uF
  rw[if_pos (by omega),U8 hi,Qbj hk]
theorem Qf2 {A:List (List Rat)} (hA:Right A):∀(M:Nat→Nat→Prop) (w:World) (v0:Value),Mid M w→Box M (fun w=>(Qd 1 false A.length (fun i=>Qi (A.getD i []))) w v0) w→Calls Tryz.prog 17 #[v0] w (RetB M (Xj (Qd 1 false (A.getD 0 []).length (fun i=>Qi ((Xr A).getD i []))) (pI 0)) w):=by
  intro M w0 v0 hM hv0
  have hrA:=hA.rows
  have hcA:=hA.cols
  have hAr:=hA.rect
  refine Jx (N:=48) Tryz.func17 rfl rfl rfl hM (show EntsA M w0 [v0] [⟨none,none,0,Qd 1 false A.length (fun i=>Qi (A.getD i []))⟩]from⟨⟨rfl,_,rfl,hv0⟩,trivial⟩) fun a hI=>?_
  refine Qe hI [] [] [⟨some 0,none,2,Qp ((Value.slice none 0 0))⟩,⟨some 1,none,3,pI 0⟩] .z (.k .z) rfl [0,1] (by kernel_rfl) ?_ .z (.kkk .z) fun a w hI=>?_
  · exact⟨Qc (.const _) (.here 1 rfl),Qc (.const _) (.here 2 rfl),trivial⟩
  refine wp_seq ?_
  refine Qe hI [] [] [⟨some 0,none,8,Qd 1 false A.length (fun i=>Qi (A.getD i []))⟩,⟨some 1,none,9,pI 0⟩,⟨some 2,none,4,pI 0⟩] .z (.kkk .z) rfl [0,1,3] (by kernel_rfl) ?_ .z (.kkkd (.dk .z)) fun a w hI=>?_
  · exact⟨Qa (.tmp 0 rfl rfl) (.here 3 rfl),Q3 (fun _ _=>by kernel_rfl) (.tmp 3 rfl rfl) (.here 4 rfl) ((by have h:=K6 (A:=A) (by omega); rw[Ul hA]at h; exact h)),Qc (.tmp 4 rfl rfl) (.here 5 rfl),trivial⟩
  refine Qe hI [] [] [⟨some 0,none,10,pI 0⟩,⟨some 1,none,11,pB false⟩] .z (.kkkk .z) rfl [0,1] (by kernel_rfl) ?_ .z (.kkkk (.dk .z)) fun a w hI=>?_
  · exact⟨Qa (.tmp 3 rfl rfl) (.here 4 rfl),Qk (v:=.bool (false)) (.tmp 4 rfl rfl) (.const _) (fun _=>rfl) (.here 5 rfl),trivial⟩
  refine Yi hI 4 rfl ?_
  refine wp_skip ?_
  refine Qh ?_
  refine Qcp hI [] [] [⟨some 0,none,13,Qd 1 false A.length (fun i=>Qi (A.getD i []))⟩,⟨some 1,none,14,Yb 1 false (Qi (A.getD 0 []))⟩,⟨some 2,none,15,Qi (A.getD 0 [])⟩,⟨some 3,none,16,pI ((A.getD 0 []).length:Int)⟩,⟨some 4,none,17,Qd 1 false A.length (fun i=>Qi (A.getD i []))⟩,⟨some 5,none,18,pI (A.length:Int)⟩] .z (.kkkk (.k .z)) rfl [0,1,3,7,15,31,63,127] 6 (by kernel_rfl) ?_ .z (.kkkd (.dddd (.kdk .z))) (fun a w hI=>hI) (⟨_,fun a w hI=>Qfl 19 (fun _ _=>by kernel_rfl) hI (.tmp 3 rfl rfl) (.tmp 4 rfl rfl) (fun M w v1 v2 hM h1 h2=>rn_zeros (n:=(A.getD 0 []).length) (m:=A.length) (by omega) (by omega) M w v1 v2 hM h1 h2) (by kernel_rfl) (by kernel_rfl) (by kernel_rfl),
      _,exL fun l hC a w hI=>Vg hI [] [⟨some 0,none,5,Qp (.slice (some ⟨l.g,0,none⟩) ((A.getD 0 []).length) ((A.getD 0 []).length))⟩] (.k .z) (.kkkk (.kk .z)) (by kernel_rfl) (Qc (.tmp 0 rfl rfl) (.here 6 rfl)) (.k .z) (.dkkk (.ddk .z)),
      rfl⟩) ?_
  · exact⟨Qa (.tmp 0 rfl rfl) (.here 5 rfl),Qt (.tmp 5 rfl rfl) (.const _) Xo (by omega) (by omega) (by kernel_rfl) (.here 6 rfl),Q5 (.tmp 6 rfl rfl) J2 ((Zm _)) (.here 7 rfl),Qz (.tmp 7 rfl rfl) (Zk).under (.here 8 rfl),Qa (.tmp 0 rfl rfl) (.here 9 rfl),Qz (.tmp 9 rfl rfl) (Xo).under (.here 10 rfl),trivial⟩
  · rintro a w ⟨z,hC,hI⟩
    have hC:GridOk 3 true z.g (A.getD 0 []).length z.R (Zo A.length (fun _ _=>Wm 0)) z.H:=hC
    refine wp_seq ?_
    refine Qe hI [] [] [⟨some 0,none,6,pI 0⟩] (.k .z) (.kkkk .z) rfl [0] (by kernel_rfl) ?_ (.k .z) (.kkkk (.k .z)) fun a w hI=>?_
    · exact⟨Qc (.const _) (.here 4 rfl),trivial⟩
    refine wp_block ?_
    refine Xw (fun(q:GI) a w=>(q.k≤A.length∧GridOk 3 true z.g (A.getD 0 []).length z.R (Zo A.length (uF A q.k 0)) q.H)∧Inv ⟨48,w0,M,fun _=>False⟩ [⟨19,19,none,none,.obj,0,0,false,Kj q.H,[]⟩] [] [⟨none,none,0,Qd 1 false A.length (fun i=>Qi (A.getD i []))⟩,⟨none,none,2,Qp ((Value.slice none 0 0))⟩,⟨none,none,3,pI 0⟩,⟨none,none,5,Qp (.slice (some ⟨z.g,0,none⟩) ((A.getD 0 []).length) ((A.getD 0 []).length))⟩,⟨none,none,6,pI (q.k:Int)⟩] Ql a w) (fun(q:GI)=>A.length-q.k) (⟨0,z.R,z.H⟩) ⟨⟨Nat.zero_le _,hC.congr fun i _=>uF_zero i⟩,(hI.conv ⟨⟨0,_,_,rfl,⟨rfl,rfl,rfl⟩,rfl,fun _=>(fun _ _ h=>h)⟩,trivial⟩ ⟨⟨rfl,rfl,0,_,rfl,fun _ _ h=>h⟩,⟨rfl,rfl,1,_,rfl,fun _ _ h=>h⟩,⟨rfl,rfl,2,_,rfl,fun _ _ h=>h⟩,⟨rfl,rfl,3,_,rfl,fun _ _ h=>h⟩,⟨rfl,rfl,4,_,rfl,(Q9 rfl)⟩,trivial⟩)⟩ ?_
    intro q a w hIk
    obtain⟨⟨hk,hB1⟩,hI⟩:=hIk
    refine wp_seq ?_
    refine Qe hI [] [] [⟨some 0,none,20,pI (q.k:Int)⟩,⟨some 1,none,21,Qd 1 false A.length (fun i=>Qi (A.getD i []))⟩,⟨some 2,none,22,pI (A.length:Int)⟩,⟨some 3,none,23,pB (decide ((q.k:Int)<(A.length:Int)))⟩] (.k .z) (.kkkk (.k .z)) rfl [0,1,3,7] (by kernel_rfl) ?_ (.k .z) (.kkkk (.kddd (.k .z))) fun a w hI=>?_
    · exact⟨Qa (.tmp 4 rfl rfl) (.here 5 rfl),Qa (.tmp 0 rfl rfl) (.here 6 rfl),Qz (.tmp 6 rfl rfl) (Xo).under (.here 7 rfl),Qk (v:=.bool (decide ((q.k:Int)<(A.length:Int)))) (.tmp 5 rfl rfl) (.tmp 7 rfl rfl) (fun _=>rfl) (.here 8 rfl),trivial⟩
    refine Xi hI 5 rfl (fun ht=>?_) (fun ht=>?_)
    · have t1:=of_decide_eq_true ht
      refine wp_skip ?_
      refine Qh ?_
      refine wp_seq ?_
      refine wp_block ?_
      refine Qe hI [] [] [⟨some 0,none,7,pI 0⟩] (.k .z) (.kkkk (.kk .z)) rfl [0] (by kernel_rfl) ?_ (.k .z) (.kkkk (.kdk .z)) fun a w hI=>?_
      · exact⟨Qc (.const _) (.here 6 rfl),trivial⟩
      refine wp_block ?_
      refine Xw (fun(q2:GI) a w=>(q2.k≤(A.getD 0 []).length∧GridOk 3 true z.g (A.getD 0 []).length z.R (Zo A.length (uF A q.k q2.k)) q2.H)∧Inv ⟨48,w0,M,fun _=>False⟩ [⟨19,19,none,none,.obj,0,0,false,Kj q2.H,[]⟩] [] [⟨none,none,0,Qd 1 false A.length (fun i=>Qi (A.getD i []))⟩,⟨none,none,2,Qp ((Value.slice none 0 0))⟩,⟨none,none,3,pI 0⟩,⟨none,none,5,Qp (.slice (some ⟨z.g,0,none⟩) ((A.getD 0 []).length) ((A.getD 0 []).length))⟩,⟨none,none,6,pI (q.k:Int)⟩,⟨none,none,7,pI (q2.k:Int)⟩] Ql a w) (fun(q2:GI)=>(A.getD 0 []).length-q2.k) (⟨0,z.R,q.H⟩) ⟨⟨Nat.zero_le _,hB1⟩,(hI.conv ⟨⟨0,_,_,rfl,⟨rfl,rfl,rfl⟩,rfl,fun _=>(fun _ _ h=>h)⟩,trivial⟩ ⟨⟨rfl,rfl,0,_,rfl,fun _ _ h=>h⟩,⟨rfl,rfl,1,_,rfl,fun _ _ h=>h⟩,⟨rfl,rfl,2,_,rfl,fun _ _ h=>h⟩,⟨rfl,rfl,3,_,rfl,fun _ _ h=>h⟩,⟨rfl,rfl,4,_,rfl,fun _ _ h=>h⟩,⟨rfl,rfl,5,_,rfl,(Q9 rfl)⟩,trivial⟩)⟩ ?_
      intro q2 a w hIk
      obtain⟨⟨hk2,hB2⟩,hI⟩:=hIk
      refine wp_seq ?_
      refine Qe hI [] [] [⟨some 0,none,26,pI (q2.k:Int)⟩,⟨some 1,none,27,Qd 1 false A.length (fun i=>Qi (A.getD i []))⟩,⟨some 2,none,28,Yb 1 false (Qi (A.getD 0 []))⟩,⟨some 3,none,29,Qi (A.getD 0 [])⟩,⟨some 4,none,30,pI ((A.getD 0 []).length:Int)⟩,⟨some 5,none,31,pB (decide ((q2.k:Int)<((A.getD 0 []).length:Int)))⟩] (.k .z) (.kkkk (.kk .z)) rfl [0,1,3,7,15,31] (by kernel_rfl) ?_ (.k .z) (.kkkk (.kkdd (.dddk .z))) fun a w hI=>?_
      · exact⟨Qa (.tmp 5 rfl rfl) (.here 6 rfl),Qa (.tmp 0 rfl rfl) (.here 7 rfl),Qt (.tmp 7 rfl rfl) (.const _) Xo (by omega) (by omega) (by kernel_rfl) (.here 8 rfl),Q5 (.tmp 8 rfl rfl) J2 ((Zm _)) (.here 9 rfl),Qz (.tmp 9 rfl rfl) (Zk).under (.here 10 rfl),Qk (v:=.bool (decide ((q2.k:Int)<((A.getD 0 []).length:Int)))) (.tmp 6 rfl rfl) (.tmp 10 rfl rfl) (fun _=>rfl) (.here 11 rfl),trivial⟩
      refine Xi hI 6 rfl (fun ht=>?_) (fun ht=>?_)
      · have t2:=of_decide_eq_true ht
        refine wp_skip ?_
        refine Qh ?_
        refine wp_seq ?_
        refine wp_block ?_
        obtain⟨r,hr⟩:=hB2.at_ (i:=q2.k) (by omega) (by rw[Kv]; omega)
        have hrn:=(hB2.rows q2.k r (by omega) hr).1
        rw[Kv]at hrn
        have hra:=hAr q.k (by omega)
        refine sem_D hI [] [] [⟨some 0,none,34,Qp (.slice (some ⟨z.g,0,none⟩) ((A.getD 0 []).length) ((A.getD 0 []).length))⟩,⟨some 1,none,35,pI (q2.k:Int)⟩,⟨some 2,none,36,Qp (.pointer (some ⟨z.g,0+((q2.k:Int)).toNat*1,none⟩))⟩,⟨some 3,none,37,Qp (.slice (some ⟨r.b,0,none⟩) r.n r.cap)⟩,⟨some 4,none,38,pI (q.k:Int)⟩,⟨some 5,none,39,Qd 1 false A.length (fun i=>Qi (A.getD i []))⟩,⟨some 6,none,40,pI (q.k:Int)⟩,⟨some 7,none,41,Yb 1 false (Qi (A.getD q.k []))⟩,⟨some 8,none,42,Qi (A.getD q.k [])⟩,⟨some 9,none,43,pI (q2.k:Int)⟩,⟨some 10,none,44,Yb 3 true (Qw ((A.getD q.k []).getD q2.k 0))⟩,⟨some 11,none,45,Qw ((A.getD q.k []).getD q2.k 0)⟩,⟨some 12,none,46,Qp (.pointer (some ⟨r.b,0+((q.k:Int)).toNat*3,none⟩))⟩] (.u none [(13,Kj (Zw q2.H r.b q.k (Wm ((A.getD q.k []).getD q2.k 0))))] .z) (.kkkk (.kkk .z)) rfl [0,0,3,7,0,0,0,96,224,0,992,2016,4095,8191] (by kernel_rfl) ?_ (.s .o .z) (.kkkk (.kkdd (.d8 (.dddd .z)))) fun a w hI=>?_
        · exact⟨Qa (.tmp 3 rfl rfl) (.here 7 rfl),Qa (.tmp 5 rfl rfl) (.here 8 rfl),Xn (.tmp 7 rfl rfl) (.tmp 8 rfl rfl) Xo (by omega) (by omega) (by kernel_rfl) (.here 9 rfl),Zx (e:=⟨z.g,1,false,Vf z.R⟩) (idx:=q2.k) 0 rfl rfl rfl (by kernel_rfl) rfl (.tmp 9 rfl rfl) hB2.top rfl (hB2.hd (by omega) hr) (show 0+((q2.k:Int)).toNat*1=q2.k*1 by omega) J2 (.here 10 rfl),Qa (.tmp 4 rfl rfl) (.here 11 rfl),Qa (.tmp 0 rfl rfl) (.here 12 rfl),Qa (.tmp 4 rfl rfl) (.here 13 rfl),Qt (.tmp 12 rfl rfl) (.tmp 13 rfl rfl) Xo (by omega) (by omega) (by kernel_rfl) (.at_ 14 _ _ rfl (by rw[Int.toNat_natCast]; exact fun _ _ h=>h)),Q5 (.tmp 14 rfl rfl) J2 ((Zm _)) (.here 15 rfl),Qa (.tmp 5 rfl rfl) (.here 16 rfl),Qt (.tmp 15 rfl rfl) (.tmp 16 rfl rfl) Zk (by omega) (by omega) (by kernel_rfl) (.at_ 17 _ _ rfl (by rw[Int.toNat_natCast]; exact fun _ _ h=>h)),Q5 (.tmp 17 rfl rfl) Yw (Yk _) (.here 18 rfl),Xn (.tmp 10 rfl rfl) (.tmp 11 rfl rfl) Zk (by omega) (by omega) (by kernel_rfl) (.here 19 rfl),W7 (e:=⟨r.b,3,true,Zo A.length (uF A q.k q2.k) q2.k⟩) (idx:=q.k) (it:=Wm ((A.getD q.k []).getD q2.k 0)) 0 rfl rfl rfl (by kernel_rfl) 0 rfl (by kernel_rfl) (by kernel_rfl) rfl (.tmp 19 rfl rfl) (hB2.rows q2.k r (by omega) hr).2.2.2.1 rfl (by rw[Kv]; omega) (show 0+((q.k:Int)).toNat*3=q.k*3 by omega) Yw (.tmp 18 rfl rfl) (Yk _),trivial⟩
        refine Yd ?_
        refine Qh ?_
        refine Y0 hI [] [] [⟨some 0,none,32,pI (q2.k:Int)⟩,⟨some 1,none,33,pI ((q2.k:Int)+(1:Int))⟩,⟨some 2,none,7,pI ((q2.k:Int)+(1:Int))⟩] (.k .z) (.kkkk (.k (.t 2 .z))) rfl [0,1,3] (by kernel_rfl) ?_ (.k .z) (.kkkk (.kddd (.k .z))) fun a w hI=>?_
        · exact⟨Qa (.tmp 5 rfl rfl) (.here 6 rfl),Qk (v:=.int .i64 (IntKind.i64.wrap ((q2.k:Int)+(1:Int)))) (.tmp 6 rfl rfl) (.const _) (fun _=>rfl) (.at_ 7 _ _ rfl (X3 (by omega))),Qc (.tmp 7 rfl rfl) (.here 8 rfl),trivial⟩
        refine Qh ?_
        exact⟨⟨q2.k+1,z.R,Zw q2.H r.b q.k (Wm ((A.getD q.k []).getD q2.k 0))⟩,⟨⟨by show q2.k+1≤(A.getD 0 []).length; omega,(hB2.set (k:=q.k) (it:=Wm ((A.getD q.k []).getD q2.k 0)) (by omega) hr).congr fun i _=>(rectX_set i).trans (by rw[uF_step])⟩,(hI.conv ⟨⟨0,_,_,rfl,⟨rfl,rfl,rfl⟩,rfl,fun _=>fun _ _ h=>h⟩,trivial⟩ ⟨⟨rfl,rfl,0,_,rfl,fun _ _ h=>h⟩,⟨rfl,rfl,1,_,rfl,fun _ _ h=>h⟩,⟨rfl,rfl,2,_,rfl,fun _ _ h=>h⟩,⟨rfl,rfl,3,_,rfl,fun _ _ h=>h⟩,⟨rfl,rfl,4,_,rfl,fun _ _ h=>h⟩,⟨rfl,rfl,5,_,rfl,(Q9 (by show((q2.k:Int)+1)=((q2.k+1:Nat):Int); omega))⟩,trivial⟩)⟩,(show(A.getD 0 []).length-(q2.k+1)<(A.getD 0 []).length-q2.k by omega)⟩
      · have t3:=of_decide_eq_false ht
        refine wp_exit ?_
        refine Qv ?_
        refine Qv ?_
        refine Xt ?_
        refine Yd ?_
        refine Qh ?_
        refine Y0 hI [] [] [⟨some 0,none,24,pI (q.k:Int)⟩,⟨some 1,none,25,pI ((q.k:Int)+(1:Int))⟩,⟨some 2,none,6,pI ((q.k:Int)+(1:Int))⟩] (.k .z) (.kkkk (.t 2 (.kk .z))) rfl [0,1,3] (by kernel_rfl) ?_ (.k .z) (.kkkk (.dddd (.dk .z))) fun a w hI=>?_
        · exact⟨Qa (.tmp 4 rfl rfl) (.here 7 rfl),Qk (v:=.int .i64 (IntKind.i64.wrap ((q.k:Int)+(1:Int)))) (.tmp 7 rfl rfl) (.const _) (fun _=>rfl) (.at_ 8 _ _ rfl (X3 (by omega))),Qc (.tmp 8 rfl rfl) (.here 9 rfl),trivial⟩
        refine Qh ?_
        exact⟨⟨q.k+1,z.R,q2.H⟩,⟨⟨by show q.k+1≤A.length; omega,by rw[show q2.k=(A.getD 0 []).length by omega]at hB2; exact hB2.congr fun i hi=>uF_row i hi⟩,(hI.conv ⟨⟨0,_,_,rfl,⟨rfl,rfl,rfl⟩,rfl,fun _=>fun _ _ h=>h⟩,trivial⟩ ⟨⟨rfl,rfl,0,_,rfl,fun _ _ h=>h⟩,⟨rfl,rfl,1,_,rfl,fun _ _ h=>h⟩,⟨rfl,rfl,2,_,rfl,fun _ _ h=>h⟩,⟨rfl,rfl,3,_,rfl,fun _ _ h=>h⟩,⟨rfl,rfl,4,_,rfl,(Q9 (by show((q.k:Int)+1)=((q.k+1:Nat):Int); omega))⟩,trivial⟩)⟩,(show A.length-(q.k+1)<A.length-q.k by omega)⟩
    · have t4:=of_decide_eq_false ht
      refine wp_exit ?_
      refine Qv ?_
      refine Qv ?_
      refine Xt ?_
      refine Qh ?_
      refine Qe hI [] [] [⟨some 0,none,47,Qp (.slice (some ⟨z.g,0,none⟩) ((A.getD 0 []).length) ((A.getD 0 []).length))⟩,⟨some 1,none,2,Qp (.slice (some ⟨z.g,0,none⟩) ((A.getD 0 []).length) ((A.getD 0 []).length))⟩,⟨some 2,none,3,pI 0⟩] (.k .z) (.k (.t 1 (.t 2 (.kkk .z)))) rfl [0,1,3] (by kernel_rfl) ?_ (.k .z) (.dddd (.dddk (.k .z))) fun a w hI=>?_
      · exact⟨Qa (.tmp 3 rfl rfl) (.here 6 rfl),Qc (.tmp 6 rfl rfl) (.here 7 rfl),Qc (.const _) (.here 8 rfl),trivial⟩
      refine wp_ret ?_
      exact finObj2 hI rfl (n0:=0) rfl (.tmp 0 rfl) (.tmp 1 rfl) (p:=Qd 1 false (A.getD 0 []).length (fun i=>Qi ((Xr A).getD i []))) (fun B' w hH=>grid_refs (fun i hi=>by rw[U8 hi,W6]) (fun i k hi hk=>by rw[show q.k=A.length by omega]; exact uF_fin hi hk) w _ (hB1.read (Nat.le_refl _) (by omega) B' w hH))
theorem Qf4 {A:List (List Rat)} (hAl:A.length≤1000000) (hA:¬Right A):∀(M:Nat→Nat→Prop) (w:World) (v0:Value),Mid M w→Box M (fun w=>(Qd 1 false A.length (fun i=>Qi (A.getD i []))) w v0) w→Calls Tryz.prog 17 #[v0] w (RetB M (Xj (Qp (.slice none 0 0)) (pI 4)) w):=by
  intro M w0 v0 hM hv0
  refine Q0 (N:=48) Tryz.func17 rfl rfl rfl hM (show EntsA M w0 [v0] [⟨none,none,0,Qd 1 false A.length (fun i=>Qi (A.getD i []))⟩]from⟨⟨rfl,_,rfl,hv0⟩,trivial⟩) fun a hI=>?_
  refine Qe hI [] [] [⟨some 0,none,2,Qp ((Value.slice none 0 0))⟩,⟨some 1,none,3,pI 0⟩] .z (.k .z) rfl [0,1] (by kernel_rfl) ?_ .z (.kkk .z) fun a w hI=>?_
  · exact⟨Qc (.const _) (.here 1 rfl),Qc (.const _) (.here 2 rfl),trivial⟩
  refine wp_seq ?_
  refine Qe hI [] [] [⟨some 0,none,8,Qd 1 false A.length (fun i=>Qi (A.getD i []))⟩,⟨some 1,none,9,pI 4⟩,⟨some 2,none,4,pI 4⟩] .z (.kkk .z) rfl [0,1,3] (by kernel_rfl) ?_ .z (.kkkd (.dk .z)) fun a w hI=>?_
  · exact⟨Qa (.tmp 0 rfl rfl) (.here 3 rfl),Q3 (fun _ _=>by kernel_rfl) (.tmp 3 rfl rfl) (.here 4 rfl) ((by have h:=K6 (A:=A) hAl; rw[Qbg hA]at h; exact h)),Qc (.tmp 4 rfl rfl) (.here 5 rfl),trivial⟩
  refine Qe hI [] [] [⟨some 0,none,10,pI 4⟩,⟨some 1,none,11,pB true⟩] .z (.kkkk .z) rfl [0,1] (by kernel_rfl) ?_ .z (.kkkk (.dk .z)) fun a w hI=>?_
  · exact⟨Qa (.tmp 3 rfl rfl) (.here 4 rfl),Qk (v:=.bool (true)) (.tmp 4 rfl rfl) (.const _) (fun _=>rfl) (.here 5 rfl),trivial⟩
  refine Zh hI 4 rfl ?_
  refine Qe hI [] [] [⟨some 0,none,12,pI 4⟩,⟨some 1,none,2,Qp ((Value.slice none 0 0))⟩,⟨some 2,none,3,pI 4⟩] .z (.k (.t 1 (.t 2 (.kk .z)))) rfl [0,1,3] (by kernel_rfl) ?_ .z (.kddd (.ddkk .z)) fun a w hI=>?_
  · exact⟨Qa (.tmp 3 rfl rfl) (.here 5 rfl),Qc (.const _) (.here 6 rfl),Qc (.tmp 5 rfl rfl) (.here 7 rfl),trivial⟩
  refine wp_ret ?_
  refine Xd ?_
  exact K5 hI rfl (.tmp 1 rfl) (.tmp 2 rfl)
end Wx
