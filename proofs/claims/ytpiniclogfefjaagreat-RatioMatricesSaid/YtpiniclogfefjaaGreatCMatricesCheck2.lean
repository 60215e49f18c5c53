import Derived.Test.YtpiniclogfefjaaGreatJMatrices44
namespace Wx
set_option maxRecDepth 100000
open Go Go.RowKit Go.Proofs
set_option linter.unusedVariables false

theorem c_check_a {X:List (List Rat)} (hX:X.length≤1000000) (hbad:numBad X=true):∀(M:Nat→Nat→Prop) (w:World) (v0:Value),Mid M w→Box M (fun w=>(Qd 1 false X.length (fun i=>Qf (X.getD i []))) w v0) w→Calls Tryz.prog 48 #[v0] w (RetB M (pI 4) w):=by
  intro M w0 v0 hM hv0
  refine Q0 (N:=28) Tryz.func48 rfl rfl rfl hM (show EntsA M w0 [v0] [⟨none,none,0,Qd 1 false X.length (fun i=>Qf (X.getD i []))⟩]from⟨⟨rfl,_,rfl,hv0⟩,trivial⟩) fun a hI=>?_
  refine Qe hI [⟨1,1,some 0,none,.ptr,25,1,false,pv (Qd 1 false X.length (fun i=>Qf (X.getD i []))),[]⟩] [] [⟨some 1,none,2,pI 0⟩] .z (.k .z) rfl [0,1] (by kernel_rfl) ?_ (.k .z) (.dk .z) fun a w hI=>?_
  · exact⟨Um 0 rfl rfl (by kernel_rfl) (by kernel_rfl) rfl rfl rfl (.tmp 0 rfl rfl) (Ww) rfl,Qc (.const _) (.here 1 rfl),trivial⟩
  refine wp_seq ?_
  refine Qe hI [] [] [⟨some 0,none,3,Qd 1 false X.length (fun i=>Qf (X.getD i []))⟩,⟨some 1,none,4,pI (X.length:Int)⟩,⟨some 2,none,5,pB (decide ((X.length:Int)<(1:Int)))⟩,⟨some 3,none,6,pB (decide ((X.length:Int)<(1:Int)))⟩,⟨some 4,none,7,X2 ((decide ((X.length:Int)<(1:Int)))=false) (Qd 1 false X.length (fun i=>Qf (X.getD i [])))⟩,⟨some 5,none,8,X2 ((decide ((X.length:Int)<(1:Int)))=false) (pI (X.length:Int))⟩,⟨some 6,none,9,X2 ((decide ((X.length:Int)<(1:Int)))=false) (pB (decide ((X.length:Int)>(8:Int))))⟩,⟨some 7,none,10,pB true⟩,⟨some 8,none,11,pB true⟩,⟨some 9,none,12,Qp undef⟩,⟨some 10,none,13,Qp undef⟩,⟨some 11,none,14,Qp undef⟩,⟨some 12,none,15,Qp undef⟩,⟨some 13,none,16,Qp undef⟩,⟨some 14,none,17,pB true⟩,⟨some 15,none,18,pB true⟩,⟨some 16,none,19,Qp undef⟩,⟨some 17,none,20,Qp undef⟩,⟨some 18,none,21,Qp undef⟩,⟨some 19,none,22,Qp undef⟩,⟨some 20,none,23,Qp undef⟩,⟨some 21,none,24,pB true⟩] (.k .z) (.k .z) rfl [0,1,3,7,15,31,63,127,255,511,1023,2047,4095,8191,16383,32767,65535,131071,262143,524287,1048575,2097151] (by kernel_rfl) ?_ (.k .z) (.kddd (.d8 (.d8 (.ddk .z)))) fun a w hI=>?_
  · exact⟨Xl 0 rfl rfl rfl rfl (by kernel_rfl) Js rfl (.here 1 rfl),Qz (.tmp 1 rfl rfl) (Q8).under (.here 2 rfl),Qk (v:=.bool (decide ((X.length:Int)<(1:Int)))) (.tmp 2 rfl rfl) (.const _) (fun _=>rfl) (.here 3 rfl),Qa (.tmp 3 rfl rfl) (.here 4 rfl),Xh 4 rfl rfl (fun hc=>Xl 0 rfl rfl rfl rfl (by kernel_rfl) Js rfl (.sel hc 5 rfl)) (by kernel_rfl) (fun _=>.none (by kernel_rfl)) (fun hc=>.sel_no hc 5 rfl),Xh 4 rfl rfl (fun hc=>Qz (.sel (.tmp 5 rfl rfl) hc) (Q8).under (.sel hc 6 rfl)) (by kernel_rfl) (fun _=>.none (by kernel_rfl)) (fun hc=>.sel_no hc 6 rfl),Xh 4 rfl rfl (fun hc=>Qk (v:=.bool (decide ((X.length:Int)>(8:Int)))) (.sel (.tmp 6 rfl rfl) hc) (.const _) (fun _=>rfl) (.sel hc 7 rfl)) (by kernel_rfl) (fun _=>.none (by kernel_rfl)) (fun hc=>.sel_no hc 7 rfl),Yh (q:=pB ((decide ((X.length:Int)<(1:Int)))||(decide ((X.length:Int)>(8:Int))))) (.tmp 4 rfl rfl) (fun h=>.imp (.const _) fun _ _ e=>by rw[h]; exact e) (fun h=>.imp (.sel (.tmp 7 rfl rfl) (h)) fun _ _ e=>by rw[h]; exact e) (.at_ 8 _ _ rfl (Y4 (hbad))),Qa (.tmp 8 rfl rfl) (.here 9 rfl),op_no 9 rfl rfl (by simp) (by kernel_rfl) (.none (by kernel_rfl)) (.here 10 rfl),op_no 9 rfl rfl (by simp) (by kernel_rfl) (.none (by kernel_rfl)) (.here 11 rfl),op_no 9 rfl rfl (by simp) (by kernel_rfl) (.none (by kernel_rfl)) (.here 12 rfl),op_no 9 rfl rfl (by simp) (by kernel_rfl) (.none (by kernel_rfl)) (.here 13 rfl),op_no 9 rfl rfl (by simp) (by kernel_rfl) (.none (by kernel_rfl)) (.here 14 rfl),Yh (b:=true) (.tmp 9 rfl rfl) (fun _=>(.const _)) (fun h=>by cases h) (.here 15 rfl),Qa (.tmp 15 rfl rfl) (.here 16 rfl),op_no 16 rfl rfl (by simp) (by kernel_rfl) (.none (by kernel_rfl)) (.here 17 rfl),op_no 16 rfl rfl (by simp) (by kernel_rfl) (.none (by kernel_rfl)) (.here 18 rfl),op_no 16 rfl rfl (by simp) (by kernel_rfl) (.none (by kernel_rfl)) (.here 19 rfl),op_no 16 rfl rfl (by simp) (by kernel_rfl) (.none (by kernel_rfl)) (.here 20 rfl),op_no 16 rfl rfl (by simp) (by kernel_rfl) (.none (by kernel_rfl)) (.here 21 rfl),Yh (b:=true) (.tmp 16 rfl rfl) (fun _=>(.const _)) (fun h=>by cases h) (.here 22 rfl),trivial⟩
  refine Zh hI 1 rfl ?_
  refine Qe hI [] [] [⟨some 0,none,2,pI 4⟩] (.k .z) (.t 0 (.k .z)) rfl [0] (by kernel_rfl) ?_ (.k .z) (.ddk .z) fun a w hI=>?_
  · exact⟨Qc (.const _) (.here 2 rfl),trivial⟩
  refine wp_ret ?_
  refine Xd ?_
  exact Zr hI rfl (.tmp 0 rfl)
theorem c_check_b {X:List (List Rat)} (hn:0<X.length∧X.length≤8) (hbad:(decide (((X.getD 0 []).length:Int)<1)||decide (((X.getD 0 []).length:Int)>8))=true):∀(M:Nat→Nat→Prop) (w:World) (v0:Value),Mid M w→Box M (fun w=>(Qd 1 false X.length (fun i=>Qf (X.getD i []))) w v0) w→Calls Tryz.prog 48 #[v0] w (RetB M (pI 4) w):=by
  intro M w0 v0 hM hv0
  refine Q0 (N:=28) Tryz.func48 rfl rfl rfl hM (show EntsA M w0 [v0] [⟨none,none,0,Qd 1 false X.length (fun i=>Qf (X.getD i []))⟩]from⟨⟨rfl,_,rfl,hv0⟩,trivial⟩) fun a hI=>?_
  refine Qe hI [⟨1,1,some 0,none,.ptr,25,1,false,pv (Qd 1 false X.length (fun i=>Qf (X.getD i []))),[]⟩] [] [⟨some 1,none,2,pI 0⟩] .z (.k .z) rfl [0,1] (by kernel_rfl) ?_ (.k .z) (.dk .z) fun a w hI=>?_
  · exact⟨Um 0 rfl rfl (by kernel_rfl) (by kernel_rfl) rfl rfl rfl (.tmp 0 rfl rfl) (Ww) rfl,Qc (.const _) (.here 1 rfl),trivial⟩
  refine wp_seq ?_
  refine Qe hI [] [] [⟨some 0,none,3,Qd 1 false X.length (fun i=>Qf (X.getD i []))⟩,⟨some 1,none,4,pI (X.length:Int)⟩,⟨some 2,none,5,pB false⟩,⟨some 3,none,6,pB false⟩,⟨some 4,none,7,Qd 1 false X.length (fun i=>Qf (X.getD i []))⟩,⟨some 5,none,8,pI (X.length:Int)⟩,⟨some 6,none,9,pB false⟩,⟨some 7,none,10,pB false⟩,⟨some 8,none,11,pB false⟩,⟨some 9,none,12,Qd 1 false X.length (fun i=>Qf (X.getD i []))⟩,⟨some 10,none,13,Yb 1 false (Qf (X.getD 0 []))⟩,⟨some 11,none,14,Qf (X.getD 0 [])⟩,⟨some 12,none,15,pI ((X.getD 0 []).length:Int)⟩,⟨some 13,none,16,pB (decide (((X.getD 0 []).length:Int)<(1:Int)))⟩,⟨some 14,none,17,pB (decide (((X.getD 0 []).length:Int)<(1:Int)))⟩,⟨some 15,none,18,pB (decide (((X.getD 0 []).length:Int)<(1:Int)))⟩,⟨some 16,none,19,X2 ((decide (((X.getD 0 []).length:Int)<(1:Int)))=false) (Qd 1 false X.length (fun i=>Qf (X.getD i [])))⟩,⟨some 17,none,20,X2 ((decide (((X.getD 0 []).length:Int)<(1:Int)))=false) (Yb 1 false (Qf (X.getD 0 [])))⟩,⟨some 18,none,21,X2 ((decide (((X.getD 0 []).length:Int)<(1:Int)))=false) (Qf (X.getD 0 []))⟩,⟨some 19,none,22,X2 ((decide (((X.getD 0 []).length:Int)<(1:Int)))=false) (pI ((X.getD 0 []).length:Int))⟩,⟨some 20,none,23,X2 ((decide (((X.getD 0 []).length:Int)<(1:Int)))=false) (pB (decide (((X.getD 0 []).length:Int)>(8:Int))))⟩,⟨some 21,none,24,pB true⟩] (.k .z) (.k .z) rfl [0,1,3,7,15,31,63,127,255,511,1023,2047,4095,8191,16383,32767,65535,131071,262143,524287,1048575,2097151] (by kernel_rfl) ?_ (.k .z) (.kddd (.d8 (.d8 (.ddk .z)))) fun a w hI=>?_
  · exact⟨Xl 0 rfl rfl rfl rfl (by kernel_rfl) Js rfl (.here 1 rfl),Qz (.tmp 1 rfl rfl) (Q8).under (.here 2 rfl),Qk (v:=.bool (decide ((X.length:Int)<(1:Int)))) (.tmp 2 rfl rfl) (.const _) (fun _=>rfl) (.at_ 3 _ _ rfl (Y4 ((decide_eq_false (by omega))))),Qa (.tmp 3 rfl rfl) (.here 4 rfl),Xq 4 rfl rfl (Xl 0 rfl rfl rfl rfl (by kernel_rfl) Js rfl (.here 5 rfl)),Xq 4 rfl rfl (Qz (.tmp 5 rfl rfl) (Q8).under (.here 6 rfl)),Xq 4 rfl rfl (Qk (v:=.bool (decide ((X.length:Int)>(8:Int)))) (.tmp 6 rfl rfl) (.const _) (fun _=>rfl) (.at_ 7 _ _ rfl (Y4 ((decide_eq_false (by omega)))))),Yh (b:=false) (.tmp 4 rfl rfl) (fun h=>by cases h) (fun _=>(.tmp 7 rfl rfl)) (.here 8 rfl),Qa (.tmp 8 rfl rfl) (.here 9 rfl),Xq 9 rfl rfl (Xl 0 rfl rfl rfl rfl (by kernel_rfl) Js rfl (.here 10 rfl)),Xq 9 rfl rfl (Qt (.tmp 10 rfl rfl) (.const _) Q8 (by omega) (by omega) (by kernel_rfl) (.here 11 rfl)),Xq 9 rfl rfl (Q5 (.tmp 11 rfl rfl) X0 ((Y3 _)) (.here 12 rfl)),Xq 9 rfl rfl (Qz (.tmp 12 rfl rfl) (Xk).under (.here 13 rfl)),Xq 9 rfl rfl (Qk (v:=.bool (decide (((X.getD 0 []).length:Int)<(1:Int)))) (.tmp 13 rfl rfl) (.const _) (fun _=>rfl) (.here 14 rfl)),Yh (b:=false) (.tmp 9 rfl rfl) (fun h=>by cases h) (fun _=>(.tmp 14 rfl rfl)) (.here 15 rfl),Qa (.tmp 15 rfl rfl) (.here 16 rfl),Xh 16 rfl rfl (fun hc=>Xl 0 rfl rfl rfl rfl (by kernel_rfl) Js rfl (.sel hc 17 rfl)) (by kernel_rfl) (fun _=>.none (by kernel_rfl)) (fun hc=>.sel_no hc 17 rfl),Xh 16 rfl rfl (fun hc=>Qt (.sel (.tmp 17 rfl rfl) hc) (.const _) Q8 (by omega) (by omega) (by kernel_rfl) (.sel hc 18 rfl)) (by kernel_rfl) (fun _=>.none (by kernel_rfl)) (fun hc=>.sel_no hc 18 rfl),Xh 16 rfl rfl (fun hc=>Q5 (.sel (.tmp 18 rfl rfl) hc) X0 ((Y3 _)) (.sel hc 19 rfl)) (by kernel_rfl) (fun _=>.none (by kernel_rfl)) (fun hc=>.sel_no hc 19 rfl),Xh 16 rfl rfl (fun hc=>Qz (.sel (.tmp 19 rfl rfl) hc) (Xk).under (.sel hc 20 rfl)) (by kernel_rfl) (fun _=>.none (by kernel_rfl)) (fun hc=>.sel_no hc 20 rfl),Xh 16 rfl rfl (fun hc=>Qk (v:=.bool (decide (((X.getD 0 []).length:Int)>(8:Int)))) (.sel (.tmp 20 rfl rfl) hc) (.const _) (fun _=>rfl) (.sel hc 21 rfl)) (by kernel_rfl) (fun _=>.none (by kernel_rfl)) (fun hc=>.sel_no hc 21 rfl),Yh (q:=pB ((decide (((X.getD 0 []).length:Int)<(1:Int)))||(decide (((X.getD 0 []).length:Int)>(8:Int))))) (.tmp 16 rfl rfl) (fun h=>.imp (.const _) fun _ _ e=>by rw[h]; exact e) (fun h=>.imp (.sel (.tmp 21 rfl rfl) (h)) fun _ _ e=>by rw[h]; exact e) (.at_ 22 _ _ rfl (Y4 (hbad))),trivial⟩
  refine Zh hI 1 rfl ?_
  refine Qe hI [] [] [⟨some 0,none,2,pI 4⟩] (.k .z) (.t 0 (.k .z)) rfl [0] (by kernel_rfl) ?_ (.k .z) (.ddk .z) fun a w hI=>?_
  · exact⟨Qc (.const _) (.here 2 rfl),trivial⟩
  refine wp_ret ?_
  refine Xd ?_
  exact Zr hI rfl (.tmp 0 rfl)
theorem c_check_c {X:List (List Rat)} (hn:0<X.length∧X.length≤8) (hc:0<(X.getD 0 []).length∧(X.getD 0 []).length≤8) (hbad:decide (Z4 (fun i=>((X.getD i []).length:Int) != ((X.getD 0 []).length:Int)) X.length≥0)=true):∀(M:Nat→Nat→Prop) (w:World) (v0:Value),Mid M w→Box M (fun w=>(Qd 1 false X.length (fun i=>Qf (X.getD i []))) w v0) w→Calls Tryz.prog 48 #[v0] w (RetB M (pI 4) w):=by
  intro M w0 v0 hM hv0
  have h0:=hn.1
  refine Q0 (N:=28) Tryz.func48 rfl rfl rfl hM (show EntsA M w0 [v0] [⟨none,none,0,Qd 1 false X.length (fun i=>Qf (X.getD i []))⟩]from⟨⟨rfl,_,rfl,hv0⟩,trivial⟩) fun a hI=>?_
  refine Qe hI [⟨1,1,some 0,none,.ptr,25,1,false,pv (Qd 1 false X.length (fun i=>Qf (X.getD i []))),[]⟩] [] [⟨some 1,none,2,pI 0⟩] .z (.k .z) rfl [0,1] (by kernel_rfl) ?_ (.k .z) (.dk .z) fun a w hI=>?_
  · exact⟨Um 0 rfl rfl (by kernel_rfl) (by kernel_rfl) rfl rfl rfl (.tmp 0 rfl rfl) (Ww) rfl,Qc (.const _) (.here 1 rfl),trivial⟩
  refine wp_seq ?_
  refine Qe hI [] [] [⟨some 0,none,3,Qd 1 false X.length (fun i=>Qf (X.getD i []))⟩,⟨some 1,none,4,pI (X.length:Int)⟩,⟨some 2,none,5,pB false⟩,⟨some 3,none,6,pB false⟩,⟨some 4,none,7,Qd 1 false X.length (fun i=>Qf (X.getD i []))⟩,⟨some 5,none,8,pI (X.length:Int)⟩,⟨some 6,none,9,pB false⟩,⟨some 7,none,10,pB false⟩,⟨some 8,none,11,pB false⟩,⟨some 9,none,12,Qd 1 false X.length (fun i=>Qf (X.getD i []))⟩,⟨some 10,none,13,Yb 1 false (Qf (X.getD 0 []))⟩,⟨some 11,none,14,Qf (X.getD 0 [])⟩,⟨some 12,none,15,pI ((X.getD 0 []).length:Int)⟩,⟨some 13,none,16,pB false⟩,⟨some 14,none,17,pB false⟩,⟨some 15,none,18,pB false⟩,⟨some 16,none,19,Qd 1 false X.length (fun i=>Qf (X.getD i []))⟩,⟨some 17,none,20,Yb 1 false (Qf (X.getD 0 []))⟩,⟨some 18,none,21,Qf (X.getD 0 [])⟩,⟨some 19,none,22,pI ((X.getD 0 []).length:Int)⟩,⟨some 20,none,23,pB false⟩,⟨some 21,none,24,pB false⟩] (.k .z) (.k .z) rfl [0,1,3,7,15,31,63,127,255,511,1023,2047,4095,8191,16383,32767,65535,131071,262143,524287,1048575,2097151] (by kernel_rfl) ?_ (.k .z) (.kddd (.d8 (.d8 (.ddk .z)))) fun a w hI=>?_
  · exact⟨Xl 0 rfl rfl rfl rfl (by kernel_rfl) Js rfl (.here 1 rfl),Qz (.tmp 1 rfl rfl) (Q8).under (.here 2 rfl),Qk (v:=.bool (decide ((X.length:Int)<(1:Int)))) (.tmp 2 rfl rfl) (.const _) (fun _=>rfl) (.at_ 3 _ _ rfl (Y4 ((decide_eq_false (by omega))))),Qa (.tmp 3 rfl rfl) (.here 4 rfl),Xq 4 rfl rfl (Xl 0 rfl rfl rfl rfl (by kernel_rfl) Js rfl (.here 5 rfl)),Xq 4 rfl rfl (Qz (.tmp 5 rfl rfl) (Q8).under (.here 6 rfl)),Xq 4 rfl rfl (Qk (v:=.bool (decide ((X.length:Int)>(8:Int)))) (.tmp 6 rfl rfl) (.const _) (fun _=>rfl) (.at_ 7 _ _ rfl (Y4 ((decide_eq_false (by omega)))))),Yh (b:=false) (.tmp 4 rfl rfl) (fun h=>by cases h) (fun _=>(.tmp 7 rfl rfl)) (.here 8 rfl),Qa (.tmp 8 rfl rfl) (.here 9 rfl),Xq 9 rfl rfl (Xl 0 rfl rfl rfl rfl (by kernel_rfl) Js rfl (.here 10 rfl)),Xq 9 rfl rfl (Qt (.tmp 10 rfl rfl) (.const _) Q8 (by omega) (by omega) (by kernel_rfl) (.here 11 rfl)),Xq 9 rfl rfl (Q5 (.tmp 11 rfl rfl) X0 ((Y3 _)) (.here 12 rfl)),Xq 9 rfl rfl (Qz (.tmp 12 rfl rfl) (Xk).under (.here 13 rfl)),Xq 9 rfl rfl (Qk (v:=.bool (decide (((X.getD 0 []).length:Int)<(1:Int)))) (.tmp 13 rfl rfl) (.const _) (fun _=>rfl) (.at_ 14 _ _ rfl (Y4 ((decide_eq_false (by omega)))))),Yh (b:=false) (.tmp 9 rfl rfl) (fun h=>by cases h) (fun _=>(.tmp 14 rfl rfl)) (.here 15 rfl),Qa (.tmp 15 rfl rfl) (.here 16 rfl),Xq 16 rfl rfl (Xl 0 rfl rfl rfl rfl (by kernel_rfl) Js rfl (.here 17 rfl)),Xq 16 rfl rfl (Qt (.tmp 17 rfl rfl) (.const _) Q8 (by omega) (by omega) (by kernel_rfl) (.here 18 rfl)),Xq 16 rfl rfl (Q5 (.tmp 18 rfl rfl) X0 ((Y3 _)) (.here 19 rfl)),Xq 16 rfl rfl (Qz (.tmp 19 rfl rfl) (Xk).under (.here 20 rfl)),Xq 16 rfl rfl (Qk (v:=.bool (decide (((X.getD 0 []).length:Int)>(8:Int)))) (.tmp 20 rfl rfl) (.const _) (fun _=>rfl) (.at_ 21 _ _ rfl (Y4 ((decide_eq_false (by omega)))))),Yh (b:=false) (.tmp 16 rfl rfl) (fun h=>by cases h) (fun _=>(.tmp 21 rfl rfl)) (.here 22 rfl),trivial⟩
  refine Yi hI 1 rfl ?_
  refine wp_skip ?_
  refine Qh ?_
  refine wp_seq ?_
  obtain⟨p1,hI⟩:=hI.openPtr 0 rfl rfl rfl
  refine Qe hI [] [] [⟨some 0,none,25,Qd 1 false X.length (fun i=>Qf (X.getD i []))⟩,⟨some 1,none,26,Qp (.func (.func 87) #[] #[.pointer (some ⟨p1,0,none⟩)])⟩,⟨some 2,none,27,pB true⟩] (.k .z) (.kkk .z) rfl [0,1,3] (by kernel_rfl) ?_ (.k .z) (.dkdd (.dk .z)) fun a w hI=>?_
  · exact⟨Xl 0 rfl rfl rfl rfl (by kernel_rfl) Js rfl (.here 3 rfl),Qca (.tmp 0 rfl rfl) (.here 4 rfl),op_callRP (fun _ _=>by kernel_rfl) 0 rfl rfl rfl (by kernel_rfl) rfl (.tmp 0 rfl rfl) (.tmp 3 rfl rfl) (.tmp 4 rfl rfl) (Y9 _) (.at_ 5 _ _ rfl (Y4 (hbad))) (Qdg h0 (by omega)),trivial⟩
  refine Zh hI 1 rfl ?_
  refine Qe hI [] [] [⟨some 0,none,2,pI 4⟩] (.k .z) (.t 0 (.k .z)) rfl [0] (by kernel_rfl) ?_ (.k .z) (.ddk .z) fun a w hI=>?_
  · exact⟨Qc (.const _) (.here 2 rfl),trivial⟩
  refine wp_ret ?_
  refine Xd ?_
  exact Zr hI rfl (.tmp 0 rfl)
theorem Qbr {X:List (List Rat)} (hX:X.length≤1000000) (hR:¬Right X):∀(M:Nat→Nat→Prop) (w:World) (v0:Value),Mid M w→Box M (fun w=>(Qd 1 false X.length (fun i=>Qf (X.getD i []))) w v0) w→Calls Tryz.prog 48 #[v0] w (RetB M (pI 4) w):=by
  by_cases h1:0<X.length∧X.length≤8
  · cases h2:(decide (((X.getD 0 []).length:Int)<1)||decide (((X.getD 0 []).length:Int)>8))with
    |true=>exact c_check_b h1 h2
    |false=>
      simp only[Bool.or_eq_false_iff,decide_eq_false_iff_not]at h2
      refine c_check_c h1 (by omega) (decide_eq_true ?_)
      rcases Int.lt_or_le (Z4 (fun i=>((X.getD i []).length:Int) != ((X.getD 0 []).length:Int)) X.length) 0 with h3|h3
      · refine absurd ⟨h1,by omega,fun i hi=>?_⟩ hR
        have:=Qfv h3 i hi
        have:=bne_eq_false_iff_eq.1 this
        omega
      · exact h3
  · exact c_check_a hX (by cases h:numBad X with
      |true=>rfl
      |false=>exact absurd (Qcl.1 h) h1)
theorem c_square_no1 {A:List (List Rat)} (hAl:A.length≤1000000) (hA:¬Right A):∀(M:Nat→Nat→Prop) (w:World) (v0:Value),Mid M w→Box M (fun w=>(Qd 1 false A.length (fun i=>Qf (A.getD i []))) w v0) w→Calls Tryz.prog 36 #[v0] w (RetB M (pI 4) w):=by
  intro M w0 v0 hM hv0
  refine Q0 (N:=16) Tryz.func36 rfl rfl rfl hM (show EntsA M w0 [v0] [⟨none,none,0,Qd 1 false A.length (fun i=>Qf (A.getD i []))⟩]from⟨⟨rfl,_,rfl,hv0⟩,trivial⟩) fun a hI=>?_
  refine Qe hI [] [] [⟨some 0,none,2,pI 0⟩] .z (.k .z) rfl [0] (by kernel_rfl) ?_ .z (.kk .z) fun a w hI=>?_
  · exact⟨Qc (.const _) (.here 1 rfl),trivial⟩
  refine wp_seq ?_
  refine Qe hI [] [] [⟨some 0,none,4,Qd 1 false A.length (fun i=>Qf (A.getD i []))⟩,⟨some 1,none,5,pI 4⟩,⟨some 2,none,3,pI 4⟩] .z (.kk .z) rfl [0,1,3] (by kernel_rfl) ?_ .z (.kkdd (.k .z)) fun a w hI=>?_
  · exact⟨Qa (.tmp 0 rfl rfl) (.here 2 rfl),Q3 (fun _ _=>by kernel_rfl) (.tmp 2 rfl rfl) (.here 3 rfl) (Qbr hAl hA),Qc (.tmp 3 rfl rfl) (.here 4 rfl),trivial⟩
  refine Qe hI [] [] [⟨some 0,none,6,pI 4⟩,⟨some 1,none,7,pB true⟩] .z (.kkk .z) rfl [0,1] (by kernel_rfl) ?_ .z (.kkkd (.k .z)) fun a w hI=>?_
  · exact⟨Qa (.tmp 2 rfl rfl) (.here 3 rfl),Qk (v:=.bool (true)) (.tmp 3 rfl rfl) (.const _) (fun _=>rfl) (.here 4 rfl),trivial⟩
  refine Zh hI 3 rfl ?_
  refine Qe hI [] [] [⟨some 0,none,8,pI 4⟩,⟨some 1,none,2,pI 4⟩] .z (.k (.t 1 (.kk .z))) rfl [0,1] (by kernel_rfl) ?_ .z (.kddd (.dk .z)) fun a w hI=>?_
  · exact⟨Qa (.tmp 2 rfl rfl) (.here 4 rfl),Qc (.tmp 4 rfl rfl) (.here 5 rfl),trivial⟩
  refine wp_ret ?_
  refine Xd ?_
  exact Zr hI rfl (.tmp 1 rfl)
theorem c_square_no2 {A:List (List Rat)} (hA:Right A) (hne:(A.getD 0 []).length≠A.length):∀(M:Nat→Nat→Prop) (w:World) (v0:Value),Mid M w→Box M (fun w=>(Qd 1 false A.length (fun i=>Qf (A.getD i []))) w v0) w→Calls Tryz.prog 36 #[v0] w (RetB M (pI 4) w):=by
  intro M w0 v0 hM hv0
  have h0:=hA.rows
  have h0':=hA.cols
  refine Q0 (N:=16) Tryz.func36 rfl rfl rfl hM (show EntsA M w0 [v0] [⟨none,none,0,Qd 1 false A.length (fun i=>Qf (A.getD i []))⟩]from⟨⟨rfl,_,rfl,hv0⟩,trivial⟩) fun a hI=>?_
  refine Qe hI [] [] [⟨some 0,none,2,pI 0⟩] .z (.k .z) rfl [0] (by kernel_rfl) ?_ .z (.kk .z) fun a w hI=>?_
  · exact⟨Qc (.const _) (.here 1 rfl),trivial⟩
  refine wp_seq ?_
  refine Qe hI [] [] [⟨some 0,none,4,Qd 1 false A.length (fun i=>Qf (A.getD i []))⟩,⟨some 1,none,5,pI 0⟩,⟨some 2,none,3,pI 0⟩] .z (.kk .z) rfl [0,1,3] (by kernel_rfl) ?_ .z (.kkdd (.k .z)) fun a w hI=>?_
  · exact⟨Qa (.tmp 0 rfl rfl) (.here 2 rfl),Q3 (fun _ _=>by kernel_rfl) (.tmp 2 rfl rfl) (.here 3 rfl) (Wl hA),Qc (.tmp 3 rfl rfl) (.here 4 rfl),trivial⟩
  refine Qe hI [] [] [⟨some 0,none,6,pI 0⟩,⟨some 1,none,7,pB false⟩] .z (.kkk .z) rfl [0,1] (by kernel_rfl) ?_ .z (.kkkd (.k .z)) fun a w hI=>?_
  · exact⟨Qa (.tmp 2 rfl rfl) (.here 3 rfl),Qk (v:=.bool (false)) (.tmp 3 rfl rfl) (.const _) (fun _=>rfl) (.here 4 rfl),trivial⟩
  refine Yi hI 3 rfl ?_
  refine wp_skip ?_
  refine Qh ?_
  refine wp_seq ?_
  refine Qe hI [] [] [⟨some 0,none,9,Qd 1 false A.length (fun i=>Qf (A.getD i []))⟩,⟨some 1,none,10,pI (A.length:Int)⟩,⟨some 2,none,11,Qd 1 false A.length (fun i=>Qf (A.getD i []))⟩,⟨some 3,none,12,Yb 1 false (Qf (A.getD 0 []))⟩,⟨some 4,none,13,Qf (A.getD 0 [])⟩,⟨some 5,none,14,pI ((A.getD 0 []).length:Int)⟩,⟨some 6,none,15,pB true⟩] .z (.kkkk .z) rfl [0,1,3,7,15,31,63] (by kernel_rfl) ?_ .z (.dkdd (.dddd (.ddk .z))) fun a w hI=>?_
  · exact⟨Qa (.tmp 0 rfl rfl) (.here 4 rfl),Qz (.tmp 4 rfl rfl) (Q8).under (.here 5 rfl),Qa (.tmp 0 rfl rfl) (.here 6 rfl),Qt (.tmp 6 rfl rfl) (.const _) Q8 (by omega) (by omega) (by kernel_rfl) (.here 7 rfl),Q5 (.tmp 7 rfl rfl) X0 ((Y3 _)) (.here 8 rfl),Qz (.tmp 8 rfl rfl) (Xk).under (.here 9 rfl),Qk (v:=.bool (((A.length:Int) != ((A.getD 0 []).length:Int)))) (.tmp 5 rfl rfl) (.tmp 9 rfl rfl) (fun _=>rfl) (.at_ 10 _ _ rfl (Y4 ((bne_iff_ne.2 (by omega))))),trivial⟩
  refine Zh hI 1 rfl ?_
  refine Qe hI [] [] [⟨some 0,none,2,pI 4⟩] .z (.t 0 (.k .z)) rfl [0] (by kernel_rfl) ?_ .z (.ddk .z) fun a w hI=>?_
  · exact⟨Qc (.const _) (.here 2 rfl),trivial⟩
  refine wp_ret ?_
  refine Xd ?_
  exact Zr hI rfl (.tmp 0 rfl)
theorem c_sq_no {A:List (List Rat)} (hAl:A.length≤1000000) (h:¬SqOk A):∀(M:Nat→Nat→Prop) (w:World) (v0:Value),Mid M w→Box M (fun w=>(Qd 1 false A.length (fun i=>Qf (A.getD i []))) w v0) w→Calls Tryz.prog 36 #[v0] w (RetB M (pI 4) w):=by
  by_cases hA:Right A
  · exact c_square_no2 hA (fun e=>h ⟨hA,e.symm⟩)
  · exact c_square_no1 hAl hA
theorem c_Product_no1 {A B:List (List Rat)} (hAl:A.length≤1000000) (hBl:B.length≤1000000) (hA:¬Right A):∀(M:Nat→Nat→Prop) (w:World) (v0 v1:Value),Mid M w→Box M (fun w=>(Qd 1 false A.length (fun i=>Qf (A.getD i []))) w v0) w→Box M (fun w=>(Qd 1 false B.length (fun i=>Qf (B.getD i []))) w v1) w→Calls Tryz.prog 14 #[v0,v1] w (RetB M (Xj (Qp (.slice none 0 0)) (pI 4)) w):=by
  intro M w0 v0 v1 hM hv0 hv1
  refine Q0 (N:=28) Tryz.func14 rfl rfl rfl hM (show EntsA M w0 [v0,v1] [⟨none,none,0,Qd 1 false A.length (fun i=>Qf (A.getD i []))⟩,⟨none,none,1,Qd 1 false B.length (fun i=>Qf (B.getD i []))⟩]from⟨⟨rfl,_,rfl,hv0⟩,⟨rfl,_,rfl,hv1⟩,trivial⟩) fun a hI=>?_
  refine Qe hI [] [] [⟨some 0,none,4,Qp ((Value.slice none 0 0))⟩,⟨some 1,none,5,pI 0⟩] .z (.kk .z) rfl [0,1] (by kernel_rfl) ?_ .z (.kkkk .z) fun a w hI=>?_
  · exact⟨Qc (.const _) (.here 2 rfl),Qc (.const _) (.here 3 rfl),trivial⟩
  refine wp_seq ?_
  refine Qe hI [] [] [⟨some 0,none,8,Qd 1 false A.length (fun i=>Qf (A.getD i []))⟩,⟨some 1,none,9,pI 4⟩,⟨some 2,none,6,pI 4⟩] .z (.kkkk .z) rfl [0,1,3] (by kernel_rfl) ?_ .z (.kkkk (.ddk .z)) fun a w hI=>?_
  · exact⟨Qa (.tmp 0 rfl rfl) (.here 4 rfl),Q3 (fun _ _=>by kernel_rfl) (.tmp 4 rfl rfl) (.here 5 rfl) (Qbr hAl hA),Qc (.tmp 5 rfl rfl) (.here 6 rfl),trivial⟩
  refine Qe hI [] [] [⟨some 0,none,10,pI 4⟩,⟨some 1,none,11,pB true⟩] .z (.kkkk (.k .z)) rfl [0,1] (by kernel_rfl) ?_ .z (.kkkk (.kdk .z)) fun a w hI=>?_
  · exact⟨Qa (.tmp 4 rfl rfl) (.here 5 rfl),Qk (v:=.bool (true)) (.tmp 5 rfl rfl) (.const _) (fun _=>rfl) (.here 6 rfl),trivial⟩
  refine Zh hI 5 rfl ?_
  refine Qe hI [] [] [⟨some 0,none,12,pI 4⟩,⟨some 1,none,4,Qp ((Value.slice none 0 0))⟩,⟨some 2,none,5,pI 4⟩] .z (.kk (.t 1 (.t 2 (.kk .z)))) rfl [0,1,3] (by kernel_rfl) ?_ .z (.kkdd (.dddk (.k .z))) fun a w hI=>?_
  · exact⟨Qa (.tmp 4 rfl rfl) (.here 6 rfl),Qc (.const _) (.here 7 rfl),Qc (.tmp 6 rfl rfl) (.here 8 rfl),trivial⟩
  refine wp_ret ?_
  refine Xd ?_
  exact K5 hI rfl (.tmp 2 rfl) (.tmp 3 rfl)
theorem c_Product_no2 {A B:List (List Rat)} (hAl:A.length≤1000000) (hBl:B.length≤1000000) (hA:Right A) (hB:¬Right B):∀(M:Nat→Nat→Prop) (w:World) (v0 v1:Value),Mid M w→Box M (fun w=>(Qd 1 false A.length (fun i=>Qf (A.getD i []))) w v0) w→Box M (fun w=>(Qd 1 false B.length (fun i=>Qf (B.getD i []))) w v1) w→Calls Tryz.prog 14 #[v0,v1] w (RetB M (Xj (Qp (.slice none 0 0)) (pI 4)) w):=by
  intro M w0 v0 v1 hM hv0 hv1
  refine Q0 (N:=28) Tryz.func14 rfl rfl rfl hM (show EntsA M w0 [v0,v1] [⟨none,none,0,Qd 1 false A.length (fun i=>Qf (A.getD i []))⟩,⟨none,none,1,Qd 1 false B.length (fun i=>Qf (B.getD i []))⟩]from⟨⟨rfl,_,rfl,hv0⟩,⟨rfl,_,rfl,hv1⟩,trivial⟩) fun a hI=>?_
  refine Qe hI [] [] [⟨some 0,none,4,Qp ((Value.slice none 0 0))⟩,⟨some 1,none,5,pI 0⟩] .z (.kk .z) rfl [0,1] (by kernel_rfl) ?_ .z (.kkkk .z) fun a w hI=>?_
  · exact⟨Qc (.const _) (.here 2 rfl),Qc (.const _) (.here 3 rfl),trivial⟩
  refine wp_seq ?_
  refine Qe hI [] [] [⟨some 0,none,8,Qd 1 false A.length (fun i=>Qf (A.getD i []))⟩,⟨some 1,none,9,pI 0⟩,⟨some 2,none,6,pI 0⟩] .z (.kkkk .z) rfl [0,1,3] (by kernel_rfl) ?_ .z (.kkkk (.ddk .z)) fun a w hI=>?_
  · exact⟨Qa (.tmp 0 rfl rfl) (.here 4 rfl),Q3 (fun _ _=>by kernel_rfl) (.tmp 4 rfl rfl) (.here 5 rfl) (Wl hA),Qc (.tmp 5 rfl rfl) (.here 6 rfl),trivial⟩
  refine Qe hI [] [] [⟨some 0,none,10,pI 0⟩,⟨some 1,none,11,pB false⟩] .z (.kkkk (.k .z)) rfl [0,1] (by kernel_rfl) ?_ .z (.kkkk (.kdk .z)) fun a w hI=>?_
  · exact⟨Qa (.tmp 4 rfl rfl) (.here 5 rfl),Qk (v:=.bool (false)) (.tmp 5 rfl rfl) (.const _) (fun _=>rfl) (.here 6 rfl),trivial⟩
  refine Yi hI 5 rfl ?_
  refine wp_skip ?_
  refine Qh ?_
  refine wp_seq ?_
  refine Qe hI [] [] [⟨some 0,none,13,Qd 1 false B.length (fun i=>Qf (B.getD i []))⟩,⟨some 1,none,14,pI 4⟩,⟨some 2,none,7,pI 4⟩] .z (.kkkk (.kk .z)) rfl [0,1,3] (by kernel_rfl) ?_ .z (.kkkk (.dddd (.k .z))) fun a w hI=>?_
  · exact⟨Qa (.tmp 1 rfl rfl) (.here 6 rfl),Q3 (fun _ _=>by kernel_rfl) (.tmp 6 rfl rfl) (.here 7 rfl) (Qbr hBl hB),Qc (.tmp 7 rfl rfl) (.here 8 rfl),trivial⟩
  refine Qe hI [] [] [⟨some 0,none,15,pI 4⟩,⟨some 1,none,16,pB true⟩] .z (.kkkk (.k .z)) rfl [0,1] (by kernel_rfl) ?_ .z (.kkkk (.kdk .z)) fun a w hI=>?_
  · exact⟨Qa (.tmp 4 rfl rfl) (.here 5 rfl),Qk (v:=.bool (true)) (.tmp 5 rfl rfl) (.const _) (fun _=>rfl) (.here 6 rfl),trivial⟩
  refine Zh hI 5 rfl ?_
  refine Qe hI [] [] [⟨some 0,none,17,pI 4⟩,⟨some 1,none,4,Qp ((Value.slice none 0 0))⟩,⟨some 2,none,5,pI 4⟩] .z (.kk (.t 1 (.t 2 (.kk .z)))) rfl [0,1,3] (by kernel_rfl) ?_ .z (.kkdd (.dddk (.k .z))) fun a w hI=>?_
  · exact⟨Qa (.tmp 4 rfl rfl) (.here 6 rfl),Qc (.const _) (.here 7 rfl),Qc (.tmp 6 rfl rfl) (.here 8 rfl),trivial⟩
  refine wp_ret ?_
  refine Xd ?_
  exact K5 hI rfl (.tmp 2 rfl) (.tmp 3 rfl)
theorem c_Product_no3 {A B:List (List Rat)} (hAl:A.length≤1000000) (hBl:B.length≤1000000) (hA:Right A) (hB:Right B) (hf:B.length≠(A.getD 0 []).length):∀(M:Nat→Nat→Prop) (w:World) (v0 v1:Value),Mid M w→Box M (fun w=>(Qd 1 false A.length (fun i=>Qf (A.getD i []))) w v0) w→Box M (fun w=>(Qd 1 false B.length (fun i=>Qf (B.getD i []))) w v1) w→Calls Tryz.prog 14 #[v0,v1] w (RetB M (Xj (Qp (.slice none 0 0)) (pI 4)) w):=by
  intro M w0 v0 v1 hM hv0 hv1
  have h0:=hA.rows
  have h0':=hA.cols
  refine Q0 (N:=28) Tryz.func14 rfl rfl rfl hM (show EntsA M w0 [v0,v1] [⟨none,none,0,Qd 1 false A.length (fun i=>Qf (A.getD i []))⟩,⟨none,none,1,Qd 1 false B.length (fun i=>Qf (B.getD i []))⟩]from⟨⟨rfl,_,rfl,hv0⟩,⟨rfl,_,rfl,hv1⟩,trivial⟩) fun a hI=>?_
  refine Qe hI [] [] [⟨some 0,none,4,Qp ((Value.slice none 0 0))⟩,⟨some 1,none,5,pI 0⟩] .z (.kk .z) rfl [0,1] (by kernel_rfl) ?_ .z (.kkkk .z) fun a w hI=>?_
  · exact⟨Qc (.const _) (.here 2 rfl),Qc (.const _) (.here 3 rfl),trivial⟩
  refine wp_seq ?_
  refine Qe hI [] [] [⟨some 0,none,8,Qd 1 false A.length (fun i=>Qf (A.getD i []))⟩,⟨some 1,none,9,pI 0⟩,⟨some 2,none,6,pI 0⟩] .z (.kkkk .z) rfl [0,1,3] (by kernel_rfl) ?_ .z (.kkkk (.ddk .z)) fun a w hI=>?_
  · exact⟨Qa (.tmp 0 rfl rfl) (.here 4 rfl),Q3 (fun _ _=>by kernel_rfl) (.tmp 4 rfl rfl) (.here 5 rfl) (Wl hA),Qc (.tmp 5 rfl rfl) (.here 6 rfl),trivial⟩
  refine Qe hI [] [] [⟨some 0,none,10,pI 0⟩,⟨some 1,none,11,pB false⟩] .z (.kkkk (.k .z)) rfl [0,1] (by kernel_rfl) ?_ .z (.kkkk (.kdk .z)) fun a w hI=>?_
  · exact⟨Qa (.tmp 4 rfl rfl) (.here 5 rfl),Qk (v:=.bool (false)) (.tmp 5 rfl rfl) (.const _) (fun _=>rfl) (.here 6 rfl),trivial⟩
  refine Yi hI 5 rfl ?_
  refine wp_skip ?_
  refine Qh ?_
  refine wp_seq ?_
  refine Qe hI [] [] [⟨some 0,none,13,Qd 1 false B.length (fun i=>Qf (B.getD i []))⟩,⟨some 1,none,14,pI 0⟩,⟨some 2,none,7,pI 0⟩] .z (.kkkk (.kk .z)) rfl [0,1,3] (by kernel_rfl) ?_ .z (.kkkk (.dddd (.k .z))) fun a w hI=>?_
  · exact⟨Qa (.tmp 1 rfl rfl) (.here 6 rfl),Q3 (fun _ _=>by kernel_rfl) (.tmp 6 rfl rfl) (.here 7 rfl) (Wl hB),Qc (.tmp 7 rfl rfl) (.here 8 rfl),trivial⟩
  refine Qe hI [] [] [⟨some 0,none,15,pI 0⟩,⟨some 1,none,16,pB false⟩] .z (.kkkk (.k .z)) rfl [0,1] (by kernel_rfl) ?_ .z (.kkkk (.kdk .z)) fun a w hI=>?_
  · exact⟨Qa (.tmp 4 rfl rfl) (.here 5 rfl),Qk (v:=.bool (false)) (.tmp 5 rfl rfl) (.const _) (fun _=>rfl) (.here 6 rfl),trivial⟩
  refine Yi hI 5 rfl ?_
  refine wp_skip ?_
  refine Qh ?_
  refine wp_seq ?_
  refine Qe hI [] [] [⟨some 0,none,18,Qd 1 false B.length (fun i=>Qf (B.getD i []))⟩,⟨some 1,none,19,pI (B.length:Int)⟩,⟨some 2,none,20,Qd 1 false A.length (fun i=>Qf (A.getD i []))⟩,⟨some 3,none,21,Yb 1 false (Qf (A.getD 0 []))⟩,⟨some 4,none,22,Qf (A.getD 0 [])⟩,⟨some 5,none,23,pI ((A.getD 0 []).length:Int)⟩,⟨some 6,none,24,pB true⟩] .z (.kkkk (.kk .z)) rfl [0,1,3,7,15,31,63] (by kernel_rfl) ?_ .z (.kkkk (.d8 (.k .z))) fun a w hI=>?_
  · exact⟨Qa (.tmp 1 rfl rfl) (.here 6 rfl),Qz (.tmp 6 rfl rfl) (Q8).under (.here 7 rfl),Qa (.tmp 0 rfl rfl) (.here 8 rfl),Qt (.tmp 8 rfl rfl) (.const _) Q8 (by omega) (by omega) (by kernel_rfl) (.here 9 rfl),Q5 (.tmp 9 rfl rfl) X0 ((Y3 _)) (.here 10 rfl),Qz (.tmp 10 rfl rfl) (Xk).under (.here 11 rfl),Qk (v:=.bool (((B.length:Int) != ((A.getD 0 []).length:Int)))) (.tmp 7 rfl rfl) (.tmp 11 rfl rfl) (fun _=>rfl) (.at_ 12 _ _ rfl (Y4 ((bne_iff_ne.2 (by omega))))),trivial⟩
  refine Zh hI 4 rfl ?_
  refine Qe hI [] [] [⟨some 0,none,4,Qp ((Value.slice none 0 0))⟩,⟨some 1,none,5,pI 4⟩] .z (.kk (.t 0 (.t 1 (.k .z)))) rfl [0,1] (by kernel_rfl) ?_ .z (.kkdd (.dkk .z)) fun a w hI=>?_
  · exact⟨Qc (.const _) (.here 5 rfl),Qc (.const _) (.here 6 rfl),trivial⟩
  refine wp_ret ?_
  refine Xd ?_
  exact K5 hI rfl (.tmp 2 rfl) (.tmp 3 rfl)
theorem Qf9 {A:List (List Rat)} {j:Nat} (hA:Right A) (hb:BdX j A):∀(M:Nat→Nat→Prop) (w:World) (v0:Value),Mid M w→Box M (fun w=>(Qd 1 false A.length (fun i=>Qf (A.getD i []))) w v0) w→Calls Tryz.prog 16 #[v0] w (RetB M (Xj (Qd 1 false (A.getD 0 []).length (fun i=>Qf ((Xr A).getD i []))) (pI 0)) w):=by
  intro M w0 v0 hM hv0
  have h0:=hA.rows
  have h0':=hA.cols
  refine Q0 (N:=12) Tryz.func16 rfl rfl rfl hM (show EntsA M w0 [v0] [⟨none,none,0,Qd 1 false A.length (fun i=>Qf (A.getD i []))⟩]from⟨⟨rfl,_,rfl,hv0⟩,trivial⟩) fun a hI=>?_
  refine Qe hI [] [] [⟨some 0,none,2,Qp ((Value.slice none 0 0))⟩,⟨some 1,none,3,pI 0⟩] .z (.k .z) rfl [0,1] (by kernel_rfl) ?_ .z (.kkk .z) fun a w hI=>?_
  · exact⟨Qc (.const _) (.here 1 rfl),Qc (.const _) (.here 2 rfl),trivial⟩
  refine wp_seq ?_
  refine Qe hI [] [] [⟨some 0,none,5,Qd 1 false A.length (fun i=>Qf (A.getD i []))⟩,⟨some 1,none,6,pI 0⟩,⟨some 2,none,4,pI 0⟩] .z (.kkk .z) rfl [0,1,3] (by kernel_rfl) ?_ .z (.kkkd (.dk .z)) fun a w hI=>?_
  · exact⟨Qa (.tmp 0 rfl rfl) (.here 3 rfl),Q3 (fun _ _=>by kernel_rfl) (.tmp 3 rfl rfl) (.here 4 rfl) (Wl hA),Qc (.tmp 4 rfl rfl) (.here 5 rfl),trivial⟩
  refine Qe hI [] [] [⟨some 0,none,7,pI 0⟩,⟨some 1,none,8,pB false⟩] .z (.kkkk .z) rfl [0,1] (by kernel_rfl) ?_ .z (.kkkk (.dk .z)) fun a w hI=>?_
  · exact⟨Qa (.tmp 3 rfl rfl) (.here 4 rfl),Qk (v:=.bool (false)) (.tmp 4 rfl rfl) (.const _) (fun _=>rfl) (.here 5 rfl),trivial⟩
  refine Yi hI 4 rfl ?_
  refine wp_skip ?_
  refine Qh ?_
  refine Qe hI [] [] [⟨some 0,none,10,Qd 1 false A.length (fun i=>Qf (A.getD i []))⟩,⟨some 1,none,11,Qd 1 false (A.getD 0 []).length (fun i=>Qf ((Xr A).getD i []))⟩,⟨some 2,none,2,Qd 1 false (A.getD 0 []).length (fun i=>Qf ((Xr A).getD i []))⟩,⟨some 3,none,3,pI 0⟩] .z (.k (.t 2 (.t 3 (.kk .z)))) rfl [0,1,3,7] (by kernel_rfl) ?_ .z (.dddd (.dddk (.k .z))) fun a w hI=>?_
  · exact⟨Qa (.tmp 0 rfl rfl) (.here 5 rfl),Q3 (fun _ _=>by kernel_rfl) (.tmp 5 rfl rfl) (.here 6 rfl) (c_turned (j:=j) hA.rows.1 (by omega) (by omega) hA.rect hb),Qc (.tmp 6 rfl rfl) (.here 7 rfl),Qc (.const _) (.here 8 rfl),trivial⟩
  refine wp_ret ?_
  exact K5 hI rfl (.tmp 0 rfl) (.tmp 1 rfl)
theorem Qf7 {A:List (List Rat)} (hAl:A.length≤1000000) (hA:¬Right A):∀(M:Nat→Nat→Prop) (w:World) (v0:Value),Mid M w→Box M (fun w=>(Qd 1 false A.length (fun i=>Qf (A.getD i []))) w v0) w→Calls Tryz.prog 16 #[v0] w (RetB M (Xj (Qp (.slice none 0 0)) (pI 4)) w):=by
  intro M w0 v0 hM hv0
  refine Q0 (N:=12) Tryz.func16 rfl rfl rfl hM (show EntsA M w0 [v0] [⟨none,none,0,Qd 1 false A.length (fun i=>Qf (A.getD i []))⟩]from⟨⟨rfl,_,rfl,hv0⟩,trivial⟩) fun a hI=>?_
  refine Qe hI [] [] [⟨some 0,none,2,Qp ((Value.slice none 0 0))⟩,⟨some 1,none,3,pI 0⟩] .z (.k .z) rfl [0,1] (by kernel_rfl) ?_ .z (.kkk .z) fun a w hI=>?_
  · exact⟨Qc (.const _) (.here 1 rfl),Qc (.const _) (.here 2 rfl),trivial⟩
  refine wp_seq ?_
  refine Qe hI [] [] [⟨some 0,none,5,Qd 1 false A.length (fun i=>Qf (A.getD i []))⟩,⟨some 1,none,6,pI 4⟩,⟨some 2,none,4,pI 4⟩] .z (.kkk .z) rfl [0,1,3] (by kernel_rfl) ?_ .z (.kkkd (.dk .z)) fun a w hI=>?_
  · exact⟨Qa (.tmp 0 rfl rfl) (.here 3 rfl),Q3 (fun _ _=>by kernel_rfl) (.tmp 3 rfl rfl) (.here 4 rfl) (Qbr hAl hA),Qc (.tmp 4 rfl rfl) (.here 5 rfl),trivial⟩
  refine Qe hI [] [] [⟨some 0,none,7,pI 4⟩,⟨some 1,none,8,pB true⟩] .z (.kkkk .z) rfl [0,1] (by kernel_rfl) ?_ .z (.kkkk (.dk .z)) fun a w hI=>?_
  · exact⟨Qa (.tmp 3 rfl rfl) (.here 4 rfl),Qk (v:=.bool (true)) (.tmp 4 rfl rfl) (.const _) (fun _=>rfl) (.here 5 rfl),trivial⟩
  refine Zh hI 4 rfl ?_
  refine Qe hI [] [] [⟨some 0,none,9,pI 4⟩,⟨some 1,none,2,Qp ((Value.slice none 0 0))⟩,⟨some 2,none,3,pI 4⟩] .z (.k (.t 1 (.t 2 (.kk .z)))) rfl [0,1,3] (by kernel_rfl) ?_ .z (.kddd (.ddkk .z)) fun a w hI=>?_
  · exact⟨Qa (.tmp 3 rfl rfl) (.here 5 rfl),Qc (.const _) (.here 6 rfl),Qc (.tmp 5 rfl rfl) (.here 7 rfl),trivial⟩
  refine wp_ret ?_
  refine Xd ?_
  exact K5 hI rfl (.tmp 1 rfl) (.tmp 2 rfl)
theorem c_Det_no {A:List (List Rat)} (hAl:A.length≤1000000) (hR:¬SqOk A):∀(M:Nat→Nat→Prop) (w:World) (v0:Value),Mid M w→Box M (fun w=>(Qd 1 false A.length (fun i=>Qf (A.getD i []))) w v0) w→Calls Tryz.prog 19 #[v0] w (RetB M (Xj (Qo 0) (pI 4)) w):=by
  intro M w0 v0 hM hv0
  refine Q0 (N:=80) Tryz.func19 rfl rfl rfl hM (show EntsA M w0 [v0] [⟨none,none,0,Qd 1 false A.length (fun i=>Qf (A.getD i []))⟩]from⟨⟨rfl,_,rfl,hv0⟩,trivial⟩) fun a hI=>?_
  refine Qe hI [⟨2,2,some 0,none,.ptr,38,3,true,pv (Qo 0),[]⟩] [] [⟨some 1,none,3,pI 0⟩] .z (.k .z) rfl [0,1] (by kernel_rfl) ?_ (.k .z) (.kk .z) fun a w hI=>?_
  · exact⟨Yu 0 rfl rfl (by kernel_rfl) (by kernel_rfl) rfl rfl rfl Ja rfl rfl (by simp[Yr]) rfl (fun w=>Yv w),Qc (.const _) (.here 1 rfl),trivial⟩
  refine wp_seq ?_
  refine Qe hI [] [] [⟨some 0,none,11,Qd 1 false A.length (fun i=>Qf (A.getD i []))⟩,⟨some 1,none,12,pI 4⟩,⟨some 2,none,4,pI 4⟩] (.k .z) (.kk .z) rfl [0,1,3] (by kernel_rfl) ?_ (.k .z) (.kkdd (.k .z)) fun a w hI=>?_
  · exact⟨Qa (.tmp 0 rfl rfl) (.here 2 rfl),Q3 (fun _ _=>by kernel_rfl) (.tmp 2 rfl rfl) (.here 3 rfl) (c_sq_no hAl hR),Qc (.tmp 3 rfl rfl) (.here 4 rfl),trivial⟩
  refine Qe hI [] [] [⟨some 0,none,13,pI 4⟩,⟨some 1,none,14,pB true⟩] (.k .z) (.kkk .z) rfl [0,1] (by kernel_rfl) ?_ (.k .z) (.kkkd (.k .z)) fun a w hI=>?_
  · exact⟨Qa (.tmp 2 rfl rfl) (.here 3 rfl),Qk (v:=.bool (true)) (.tmp 3 rfl rfl) (.const _) (fun _=>rfl) (.here 4 rfl),trivial⟩
  refine Zh hI 3 rfl ?_
  refine Qe hI [] [] [⟨some 0,none,15,Qo 0⟩,⟨some 1,none,16,pI 4⟩,⟨some 3,none,3,pI 4⟩] (.u none [(2,pv (Qo 0))] .z) (.k (.t 3 (.kk .z))) rfl [0,1,3,7] (by kernel_rfl) ?_ (.s .o .z) (.kddd (.ddk .z)) fun a w hI=>?_
  · exact⟨op_zero Qd9 (fun w=>Yv w) (.here 4 rfl),Qa (.tmp 2 rfl rfl) (.here 5 rfl),Xx 0 rfl rfl rfl rfl 0 rfl (by kernel_rfl) (by kernel_rfl) Q4 (.tmp 4 rfl rfl) (X8 _),Qc (.tmp 5 rfl rfl) (.here 6 rfl),trivial⟩
  refine wp_ret ?_
  refine Xd ?_
  exact K5 hI rfl (.cell 0 rfl rfl rfl rfl Q4 rfl) (.tmp 1 rfl)
theorem Qga {A:List (List Rat)} {b:List Rat} (hAl:A.length≤1000000) (hR:¬SqOk A):∀(M:Nat→Nat→Prop) (w:World) (v0 v1:Value),Mid M w→Box M (fun w=>(Qd 1 false A.length (fun i=>Qf (A.getD i []))) w v0) w→Box M (fun w=>(Qf b) w v1) w→Calls Tryz.prog 21 #[v0,v1] w (RetB M (Xj (Qo 0) (pI 4)) w):=by
  intro M w0 v0 v1 hM hv0 hv1
  refine Q0 (N:=41) Tryz.func21 rfl rfl rfl hM (show EntsA M w0 [v0,v1] [⟨none,none,0,Qd 1 false A.length (fun i=>Qf (A.getD i []))⟩,⟨none,none,1,Qf b⟩]from⟨⟨rfl,_,rfl,hv0⟩,⟨rfl,_,rfl,hv1⟩,trivial⟩) fun a hI=>?_
  refine Qe hI [⟨4,4,some 0,none,.ptr,38,3,true,pv (Qo 0),[]⟩] [] [⟨some 1,none,5,pI 0⟩] .z (.kk .z) rfl [0,1] (by kernel_rfl) ?_ (.k .z) (.kkk .z) fun a w hI=>?_
  · exact⟨Yu 0 rfl rfl (by kernel_rfl) (by kernel_rfl) rfl rfl rfl Ja rfl rfl (by simp[Yr]) rfl (fun w=>Yv w),Qc (.const _) (.here 2 rfl),trivial⟩
  refine wp_seq ?_
  refine Qe hI [] [] [⟨some 0,none,10,Qd 1 false A.length (fun i=>Qf (A.getD i []))⟩,⟨some 1,none,11,pI 4⟩,⟨some 2,none,6,pI 4⟩] (.k .z) (.kkk .z) rfl [0,1,3] (by kernel_rfl) ?_ (.k .z) (.kkkd (.dk .z)) fun a w hI=>?_
  · exact⟨Qa (.tmp 0 rfl rfl) (.here 3 rfl),Q3 (fun _ _=>by kernel_rfl) (.tmp 3 rfl rfl) (.here 4 rfl) (c_sq_no hAl hR),Qc (.tmp 4 rfl rfl) (.here 5 rfl),trivial⟩
  refine Qe hI [] [] [⟨some 0,none,12,pI 4⟩,⟨some 1,none,13,pB true⟩] (.k .z) (.kkkk .z) rfl [0,1] (by kernel_rfl) ?_ (.k .z) (.kkkk (.dk .z)) fun a w hI=>?_
  · exact⟨Qa (.tmp 3 rfl rfl) (.here 4 rfl),Qk (v:=.bool (true)) (.tmp 4 rfl rfl) (.const _) (fun _=>rfl) (.here 5 rfl),trivial⟩
  refine Zh hI 4 rfl ?_
  refine Qe hI [] [] [⟨some 0,none,14,Qo 0⟩,⟨some 1,none,15,pI 4⟩,⟨some 3,none,5,pI 4⟩] (.u none [(2,pv (Qo 0))] .z) (.kk (.t 3 (.kk .z))) rfl [0,1,3,7] (by kernel_rfl) ?_ (.s .o .z) (.kkdd (.dddk .z)) fun a w hI=>?_
  · exact⟨op_zero Qd9 (fun w=>Yv w) (.here 5 rfl),Qa (.tmp 3 rfl rfl) (.here 6 rfl),Xx 0 rfl rfl rfl rfl 0 rfl (by kernel_rfl) (by kernel_rfl) Q4 (.tmp 5 rfl rfl) (X8 _),Qc (.tmp 6 rfl rfl) (.here 7 rfl),trivial⟩
  refine wp_ret ?_
  refine Xd ?_
  exact K5 hI rfl (.cell 0 rfl rfl rfl rfl Q4 rfl) (.tmp 2 rfl)
theorem Qf8 {A:List (List Rat)} {b:List Rat} (hR:SqOk A) (hbl:b.length≠A.length):∀(M:Nat→Nat→Prop) (w:World) (v0 v1:Value),Mid M w→Box M (fun w=>(Qd 1 false A.length (fun i=>Qf (A.getD i []))) w v0) w→Box M (fun w=>(Qf b) w v1) w→Calls Tryz.prog 21 #[v0,v1] w (RetB M (Xj (Qo 0) (pI 4)) w):=by
  intro M w0 v0 v1 hM hv0 hv1
  have h0:=hR.1.rows
  refine Q0 (N:=41) Tryz.func21 rfl rfl rfl hM (show EntsA M w0 [v0,v1] [⟨none,none,0,Qd 1 false A.length (fun i=>Qf (A.getD i []))⟩,⟨none,none,1,Qf b⟩]from⟨⟨rfl,_,rfl,hv0⟩,⟨rfl,_,rfl,hv1⟩,trivial⟩) fun a hI=>?_
  refine Qe hI [⟨4,4,some 0,none,.ptr,38,3,true,pv (Qo 0),[]⟩] [] [⟨some 1,none,5,pI 0⟩] .z (.kk .z) rfl [0,1] (by kernel_rfl) ?_ (.k .z) (.kkk .z) fun a w hI=>?_
  · exact⟨Yu 0 rfl rfl (by kernel_rfl) (by kernel_rfl) rfl rfl rfl Ja rfl rfl (by simp[Yr]) rfl (fun w=>Yv w),Qc (.const _) (.here 2 rfl),trivial⟩
  refine wp_seq ?_
  refine Qe hI [] [] [⟨some 0,none,10,Qd 1 false A.length (fun i=>Qf (A.getD i []))⟩,⟨some 1,none,11,pI 0⟩,⟨some 2,none,6,pI 0⟩] (.k .z) (.kkk .z) rfl [0,1,3] (by kernel_rfl) ?_ (.k .z) (.kkkd (.dk .z)) fun a w hI=>?_
  · exact⟨Qa (.tmp 0 rfl rfl) (.here 3 rfl),Q3 (fun _ _=>by kernel_rfl) (.tmp 3 rfl rfl) (.here 4 rfl) (Qdq hR.1 hR.2.symm),Qc (.tmp 4 rfl rfl) (.here 5 rfl),trivial⟩
  refine Qe hI [] [] [⟨some 0,none,12,pI 0⟩,⟨some 1,none,13,pB false⟩] (.k .z) (.kkkk .z) rfl [0,1] (by kernel_rfl) ?_ (.k .z) (.kkkk (.dk .z)) fun a w hI=>?_
  · exact⟨Qa (.tmp 3 rfl rfl) (.here 4 rfl),Qk (v:=.bool (false)) (.tmp 4 rfl rfl) (.const _) (fun _=>rfl) (.here 5 rfl),trivial⟩
  refine Yi hI 4 rfl ?_
  refine wp_skip ?_
  refine Qh ?_
  refine wp_seq ?_
  refine Qe hI [] [] [⟨some 0,none,16,Qf b⟩,⟨some 1,none,17,pI (b.length:Int)⟩,⟨some 2,none,18,Qd 1 false A.length (fun i=>Qf (A.getD i []))⟩,⟨some 3,none,19,pI (A.length:Int)⟩,⟨some 4,none,20,pB true⟩] (.k .z) (.kkkk (.k .z)) rfl [0,1,3,7,15] (by kernel_rfl) ?_ (.k .z) (.kkkd (.dddd (.dk .z))) fun a w hI=>?_
  · exact⟨Qa (.tmp 1 rfl rfl) (.here 5 rfl),Qz (.tmp 5 rfl rfl) (Xk).under (.here 6 rfl),Qa (.tmp 0 rfl rfl) (.here 7 rfl),Qz (.tmp 7 rfl rfl) (Q8).under (.here 8 rfl),Qk (v:=.bool (((b.length:Int) != (A.length:Int)))) (.tmp 6 rfl rfl) (.tmp 8 rfl rfl) (fun _=>rfl) (.at_ 9 _ _ rfl (Y4 ((bne_iff_ne.2 (by omega))))),trivial⟩
  refine Zh hI 3 rfl ?_
  refine Qe hI [] [] [⟨some 0,none,21,Qo 0⟩,⟨some 2,none,5,pI 4⟩] (.u none [(1,pv (Qo 0))] .z) (.kk (.t 2 (.k .z))) rfl [0,1,3] (by kernel_rfl) ?_ (.s .o .z) (.kkdd (.dk .z)) fun a w hI=>?_
  · exact⟨op_zero Qd9 (fun w=>Yv w) (.here 4 rfl),Xx 0 rfl rfl rfl rfl 0 rfl (by kernel_rfl) (by kernel_rfl) Q4 (.tmp 4 rfl rfl) (X8 _),Qc (.const _) (.here 5 rfl),trivial⟩
  refine wp_ret ?_
  refine Xd ?_
  exact K5 hI rfl (.cell 0 rfl rfl rfl rfl Q4 rfl) (.tmp 2 rfl)
theorem c_Quadratic_ok {A:List (List Rat)} {x:List Rat} {j jx:Nat} (hR:SqOk A) (hxl:x.length=A.length) (hb:BdX j A) (hx:∀k,BdR jx (x.getD k 0)) (hq:K8 (j+jx) A.length≤100000000∧jx+K8 (j+jx) A.length≤100000000∧∀k,k<A.length→(1+k*(A.length*(jx+(j+jx)+1)))+(jx+K8 (j+jx) A.length)+(1+k*(A.length*(jx+(j+jx)+1)))+(jx+K8 (j+jx) A.length)+1≤100000000):∀(M:Nat→Nat→Prop) (w:World) (v0 v1:Value),Mid M w→Box M (fun w=>(Qd 1 false A.length (fun i=>Qf (A.getD i []))) w v0) w→Box M (fun w=>(Qf x) w v1) w→Calls Tryz.prog 21 #[v0,v1] w (RetB M (Xj (Qo (qSum A x A.length A.length)) (pI 0)) w):=by
  intro M w0 v0 v1 hM hv0 hv1
  have h0:=hR.1.rows
  have hr:=hR.rect
  refine Q0 (N:=41) Tryz.func21 rfl rfl rfl hM (show EntsA M w0 [v0,v1] [⟨none,none,0,Qd 1 false A.length (fun i=>Qf (A.getD i []))⟩,⟨none,none,1,Qf x⟩]from⟨⟨rfl,_,rfl,hv0⟩,⟨rfl,_,rfl,hv1⟩,trivial⟩) fun a hI=>?_
  refine Qe hI [⟨4,4,some 0,none,.ptr,38,3,true,pv (Qo 0),[]⟩] [] [⟨some 1,none,5,pI 0⟩] .z (.kk .z) rfl [0,1] (by kernel_rfl) ?_ (.k .z) (.kkk .z) fun a w hI=>?_
  · exact⟨Yu 0 rfl rfl (by kernel_rfl) (by kernel_rfl) rfl rfl rfl Ja rfl rfl (by simp[Yr]) rfl (fun w=>Yv w),Qc (.const _) (.here 2 rfl),trivial⟩
  refine wp_seq ?_
  refine Qe hI [] [] [⟨some 0,none,10,Qd 1 false A.length (fun i=>Qf (A.getD i []))⟩,⟨some 1,none,11,pI 0⟩,⟨some 2,none,6,pI 0⟩] (.k .z) (.kkk .z) rfl [0,1,3] (by kernel_rfl) ?_ (.k .z) (.kkkd (.dk .z)) fun a w hI=>?_
  · exact⟨Qa (.tmp 0 rfl rfl) (.here 3 rfl),Q3 (fun _ _=>by kernel_rfl) (.tmp 3 rfl rfl) (.here 4 rfl) (Qdq hR.1 hR.2.symm),Qc (.tmp 4 rfl rfl) (.here 5 rfl),trivial⟩
  refine Qe hI [] [] [⟨some 0,none,12,pI 0⟩,⟨some 1,none,13,pB false⟩] (.k .z) (.kkkk .z) rfl [0,1] (by kernel_rfl) ?_ (.k .z) (.kkkk (.dk .z)) fun a w hI=>?_
  · exact⟨Qa (.tmp 3 rfl rfl) (.here 4 rfl),Qk (v:=.bool (false)) (.tmp 4 rfl rfl) (.const _) (fun _=>rfl) (.here 5 rfl),trivial⟩
  refine Yi hI 4 rfl ?_
  refine wp_skip ?_
  refine Qh ?_
  refine wp_seq ?_
  refine Qe hI [] [] [⟨some 0,none,16,Qf x⟩,⟨some 1,none,17,pI (x.length:Int)⟩,⟨some 2,none,18,Qd 1 false A.length (fun i=>Qf (A.getD i []))⟩,⟨some 3,none,19,pI (A.length:Int)⟩,⟨some 4,none,20,pB false⟩] (.k .z) (.kkkk (.k .z)) rfl [0,1,3,7,15] (by kernel_rfl) ?_ (.k .z) (.kkkd (.dddd (.dk .z))) fun a w hI=>?_
  · exact⟨Qa (.tmp 1 rfl rfl) (.here 5 rfl),Qz (.tmp 5 rfl rfl) (Xk).under (.here 6 rfl),Qa (.tmp 0 rfl rfl) (.here 7 rfl),Qz (.tmp 7 rfl rfl) (Q8).under (.here 8 rfl),Qk (v:=.bool (((x.length:Int) != (A.length:Int)))) (.tmp 6 rfl rfl) (.tmp 8 rfl rfl) (fun _=>rfl) (.at_ 9 _ _ rfl (Y4 ((by rw[hxl]; exact bne_self_eq_false _)))),trivial⟩
  refine Yi hI 3 rfl ?_
  refine wp_skip ?_
  refine Qh ?_
  refine Qe hI [⟨7,7,some 0,none,.ptr,38,3,true,pv (Qo 0),[]⟩] [] [] (.k .z) (.kkkk .z) rfl [0] (by kernel_rfl) ?_ (.k (.k .z)) (.kkkd .z) fun a w hI=>?_
  · exact⟨Yu 1 rfl rfl (by kernel_rfl) (by kernel_rfl) rfl rfl rfl Ja rfl rfl (by simp[Yr]) rfl (fun w=>Yv w),trivial⟩
  refine wp_seq ?_
  refine Qe hI [] [] [⟨some 0,none,22,Qd 1 false A.length (fun i=>Qf (A.getD i []))⟩,⟨some 1,none,23,pI (A.length:Int)⟩,⟨some 2,none,24,pI 0⟩] (.k (.k .z)) (.kkk .z) rfl [0,1,3] (by kernel_rfl) ?_ (.k (.k .z)) (.dkkk (.kk .z)) fun a w hI=>?_
  · exact⟨Qa (.tmp 0 rfl rfl) (.here 3 rfl),Qz (.tmp 3 rfl rfl) (Q8).under (.here 4 rfl),Qa (.const _) (.here 5 rfl),trivial⟩
  refine wp_block ?_
  refine Xw (fun(k:Nat) a w=>(k≤A.length)∧Inv ⟨41,w0,M,fun _=>False⟩ [⟨4,4,none,none,.ptr,38,3,true,pv (Qo 0),[]⟩,⟨7,7,none,none,.ptr,38,3,true,pv (Qo (qSum A x A.length k)),[]⟩] [] [⟨none,none,1,Qf x⟩,⟨none,none,5,pI 0⟩,⟨none,none,22,Qd 1 false A.length (fun i=>Qf (A.getD i []))⟩,⟨none,none,23,pI (A.length:Int)⟩,⟨none,none,24,pI (k:Int)⟩] Ql a w) (fun(k:Nat)=>A.length-k) (0) ⟨Nat.zero_le _,(hI.conv ⟨⟨0,_,_,rfl,⟨rfl,rfl,rfl⟩,rfl,fun _=>fun _ _ h=>h⟩,⟨1,_,_,rfl,⟨rfl,rfl,rfl⟩,rfl,fun _=>(fun _ _ q=>q)⟩,trivial⟩ ⟨⟨rfl,rfl,0,_,rfl,fun _ _ h=>h⟩,⟨rfl,rfl,1,_,rfl,fun _ _ h=>h⟩,⟨rfl,rfl,2,_,rfl,fun _ _ h=>h⟩,⟨rfl,rfl,3,_,rfl,fun _ _ h=>h⟩,⟨rfl,rfl,4,_,rfl,(Q9 (by omega))⟩,trivial⟩)⟩ ?_
  intro k a w hIk
  obtain⟨hp,hI⟩:=hIk
  refine Qe hI [] [] [⟨some 0,none,25,pB (decide ((k:Int)<(A.length:Int)))⟩] (.k (.k .z)) (.kkkk (.k .z)) rfl [0] (by kernel_rfl) ?_ (.k (.k .z)) (.kkkk (.kk .z)) fun a w hI=>?_
  · exact⟨Qk (v:=.bool (decide ((k:Int)<(A.length:Int)))) (.tmp 4 rfl rfl) (.tmp 3 rfl rfl) (fun _=>rfl) (.here 5 rfl),trivial⟩
  refine wp_seq ?_
  refine Xi hI 5 rfl (fun ht=>?_) (fun ht=>?_)
  · have t1:=of_decide_eq_true ht
    refine wp_skip ?_
    refine Qh ?_
    refine wp_seq ?_
    refine wp_block ?_
    refine Qe hI [] [] [⟨some 0,none,26,pI (k:Int)⟩,⟨some 1,none,27,Yb 1 false (Qf (A.getD k []))⟩,⟨some 2,none,28,Qf (A.getD k [])⟩,⟨some 3,none,8,pI (k:Int)⟩,⟨some 4,none,9,Qf (A.getD k [])⟩] (.k (.k .z)) (.kkkk (.kk .z)) rfl [0,1,3,7,15] (by kernel_rfl) ?_ (.k (.k .z)) (.kkkk (.kddd (.dkk .z))) fun a w hI=>?_
    · exact⟨Qa (.tmp 4 rfl rfl) (.here 6 rfl),Qt (.tmp 2 rfl rfl) (.tmp 4 rfl rfl) Q8 (by omega) (by omega) (by kernel_rfl) (.at_ 7 _ _ rfl (by rw[Int.toNat_natCast]; exact fun _ _ h=>h)),Q5 (.tmp 7 rfl rfl) X0 ((Y3 _)) (.here 8 rfl),Qc (.tmp 6 rfl rfl) (.here 9 rfl),Qc (.tmp 8 rfl rfl) (.here 10 rfl),trivial⟩
    have hrk:=hr k (by omega)
    refine sem_D hI [] [] [⟨some 0,none,29,Qo (qSum A x A.length k)⟩,⟨some 1,none,30,Qf x⟩,⟨some 2,none,31,pI (k:Int)⟩,⟨some 3,none,32,Yb 3 true (Qo (x.getD k 0))⟩,⟨some 4,none,33,Qo (x.getD k 0)⟩,⟨some 5,none,34,Qf (A.getD k [])⟩,⟨some 6,none,35,Qf x⟩,⟨some 7,none,36,Qo (Jv (A.getD k []) x A.length)⟩,⟨some 8,none,37,Qo ((x.getD k 0)*(Jv (A.getD k []) x A.length))⟩,⟨some 9,none,38,Qo ((qSum A x A.length k)+((x.getD k 0)*(Jv (A.getD k []) x A.length)))⟩] (.k (.u none [(10,pv (Qo ((qSum A x A.length k)+((x.getD k 0)*(Jv (A.getD k []) x A.length)))))] .z)) (.kkkk (.kkk .z)) rfl [0,0,0,6,14,0,0,96,254,511,1023] (by kernel_rfl) ?_ (.k (.s .o .z)) (.kkkk (.kddd (.d8 (.d .z)))) fun a w hI=>?_
    · exact⟨Xl 1 rfl rfl rfl rfl (by kernel_rfl) Q4 rfl (.here 7 rfl),Qa (.tmp 0 rfl rfl) (.here 8 rfl),Qa (.tmp 5 rfl rfl) (.here 9 rfl),Qt (.tmp 8 rfl rfl) (.tmp 9 rfl rfl) Xk (by omega) (by omega) (by kernel_rfl) (.at_ 10 _ _ rfl (by rw[Int.toNat_natCast]; exact fun _ _ h=>h)),Q5 (.tmp 10 rfl rfl) Q4 (X8 _) (.here 11 rfl),Qa (.tmp 6 rfl rfl) (.here 12 rfl),Qa (.tmp 0 rfl rfl) (.here 13 rfl),Kg (fun _ _=>by kernel_rfl) (.tmp 12 rfl rfl) (.tmp 13 rfl rfl) (.here 14 rfl) ((by have h:=c_inner (L1:=A.getD k []) (L2:=x) (j1:=j) (j2:=jx) (by omega) (by omega) (by omega) (by omega) (hb k) hx (by rw[hrk]; exact hq.1); rw[hrk]at h; exact h)),Yf (fun _ _=>by kernel_rfl) (Y2 _) (.tmp 11 rfl rfl) (.tmp 14 rfl rfl) (.here 15 rfl) (c_mul (hx k) (bd_dot (hb k) hx A.length) hq.2.1),Yf (fun _ _=>by kernel_rfl) (Y2 _) (.tmp 7 rfl rfl) (.tmp 15 rfl rfl) (.here 16 rfl) (c_add (bd_qSum hb hx k) ((hx k).mul (bd_dot (hb k) hx A.length)) (hq.2.2 k (by omega))),Xx 1 rfl rfl rfl rfl 0 rfl (by kernel_rfl) (by kernel_rfl) Q4 (.tmp 16 rfl rfl) (X8 _),trivial⟩
    refine Yd ?_
    refine Qh ?_
    refine Y0 hI [] [] [⟨some 0,none,39,pI ((k:Int)+(1:Int))⟩,⟨some 1,none,24,pI ((k:Int)+(1:Int))⟩] (.k (.k .z)) (.kkkk (.t 1 .z)) rfl [0,1] (by kernel_rfl) ?_ (.k (.k .z)) (.kkkk (.ddk .z)) fun a w hI=>?_
    · exact⟨Qk (v:=.int .i64 (IntKind.i64.wrap ((k:Int)+(1:Int)))) (.tmp 4 rfl rfl) (.const _) (fun _=>rfl) (.at_ 5 _ _ rfl (X3 (by omega))),Qa (.tmp 5 rfl rfl) (.here 6 rfl),trivial⟩
    refine Qh ?_
    exact⟨k+1,⟨(show k+1≤A.length by omega),(hI.conv ⟨⟨0,_,_,rfl,⟨rfl,rfl,rfl⟩,rfl,fun _=>fun _ _ h=>h⟩,⟨1,_,_,rfl,⟨rfl,rfl,rfl⟩,rfl,fun _=>(fun _ _ q=>q)⟩,trivial⟩ ⟨⟨rfl,rfl,0,_,rfl,fun _ _ h=>h⟩,⟨rfl,rfl,1,_,rfl,fun _ _ h=>h⟩,⟨rfl,rfl,2,_,rfl,fun _ _ h=>h⟩,⟨rfl,rfl,3,_,rfl,fun _ _ h=>h⟩,⟨rfl,rfl,4,_,rfl,(Q9 (by omega))⟩,trivial⟩)⟩,(show A.length-(k+1)<A.length-k by omega)⟩
  · have t2:=of_decide_eq_false ht
    refine wp_exit ?_
    refine Qv ?_
    refine Qv ?_
    refine Xt ?_
    refine Qh ?_
    refine Qe hI [] [] [⟨some 0,none,40,Qo (qSum A x A.length k)⟩,⟨some 2,none,5,pI 0⟩] (.u none [(1,pv (Qo (qSum A x A.length k)))] (.k .z)) (.k (.t 2 (.kkkk .z))) rfl [0,1,3] (by kernel_rfl) ?_ (.s .o (.k .z)) (.dddd (.dddk .z)) fun a w hI=>?_
    · exact⟨Xl 1 rfl rfl rfl rfl (by kernel_rfl) Q4 rfl (.here 6 rfl),Xx 0 rfl rfl rfl rfl 0 rfl (by kernel_rfl) (by kernel_rfl) Q4 (.tmp 6 rfl rfl) (X8 _),Qc (.const _) (.here 7 rfl),trivial⟩
    refine wp_ret ?_
    exact K5 hI rfl (.imp (.cell 0 rfl rfl rfl rfl Q4 rfl) (fun w v h=>by rw[show k=A.length by omega]at h; exact h)) (.tmp 0 rfl)
end Wx
