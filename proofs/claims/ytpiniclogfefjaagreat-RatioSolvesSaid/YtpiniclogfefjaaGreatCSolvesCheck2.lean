import Derived.Test.YtpiniclogfefjaaGreatJSolves45
namespace Wx
attribute [local irreducible] Q0
set_option maxRecDepth 100000
open Go Go.RowKit Go.Proofs
set_option linter.unusedVariables false

theorem c_check_a {X:List (List Rat)} (hX:X.length≤1000000) (hbad:numBad X=true):∀(M:Nat→Nat→Prop) (w:World) (v0:Value),Mid M w→Box M (fun w=>(Qc 1 false X.length (fun i=>Qe (X.getD i []))) w v0) w→Calls Tryz.prog 48 #[v0] w (RetB M (pI 4) w):=by
 intro M w0 v0 hM hv0
 refine Q8 (N:=28) Tryz.func48 rfl rfl rfl hM (show EntsA M w0 [v0] [⟨none,none,0,Qc 1 false X.length (fun i=>Qe (X.getD i []))⟩]from⟨⟨rfl,_,rfl,hv0⟩,trivial⟩) fun a hI=>?_
 refine Q3 hI 2 [⟨1,1,some 0,none,.ptr,25,1,false,pv (Qc 1 false X.length (fun i=>Qe (X.getD i []))),[]⟩] [] [Uc 1 2 _] .z (.k .z) ⟨Qa8 0 rfl rfl (by kernel_rfl) (by kernel_rfl) rfl rfl rfl (.tmp 0 rfl rfl) (V3) rfl,mv,trivial⟩ (.k .z) (.dk .z) fun a w hI=>?_
 refine wp_seq ?_
 refine Q3 hI 22 [] [] [Uc 0 3 (Qc 1 false X.length (fun i=>Qe (X.getD i []))),Uc 1 4 (pI (X.length:Int)),Uc 2 5 _,Uc 3 6 _,Uc 4 7 (Z2 ((decide ((X.length:Int)<(1:Int)))=false) (Qc 1 false X.length (fun i=>Qe (X.getD i [])))),Uc 5 8 (Z2 ((decide ((X.length:Int)<(1:Int)))=false) (pI (X.length:Int))),Uc 6 9 _,Uc 7 10 (pB true),Uc 8 11 _,Uc 9 12 (Qi undef),Uc 10 13 (Qi undef),Uc 11 14 (Qi undef),Uc 12 15 (Qi undef),Uc 13 16 (Qi undef),Uc 14 17 (pB true),Uc 15 18 _,Uc 16 19 (Qi undef),Uc 17 20 (Qi undef),Uc 18 21 (Qi undef),Uc 19 22 (Qi undef),Uc 20 23 (Qi undef),Uc 21 24 (pB true)] (.k .z) (.k .z) ⟨Xy 0 rfl rfl rfl rfl (by kernel_rfl) Kk rfl (.here 1 rfl),Qm (.tmp 1 rfl rfl) (Qt).under (.here 2 rfl),bl,mv,Jg 4 rfl rfl (fun hc=>Xy 0 rfl rfl rfl rfl (by kernel_rfl) Kk rfl (.sel hc 5 rfl)) (by kernel_rfl) (fun _=>.none (by kernel_rfl)) (fun hc=>.sel_no hc 5 rfl),Jg 4 rfl rfl (fun hc=>Qm (.sel (.tmp 5 rfl rfl) hc) (Qt).under (.sel hc 6 rfl)) (by kernel_rfl) (fun _=>.none (by kernel_rfl)) (fun hc=>.sel_no hc 6 rfl),gd fun h=>gbl h,Zt (q:=pB ((decide ((X.length:Int)<(1:Int)))||(decide ((X.length:Int)>(8:Int))))) (.tmp 4 rfl rfl) (fun h=>.imp (.const _) fun _ _ e=>by rw[h]; exact e) (fun h=>.imp (.sel (.tmp 7 rfl rfl) (h)) fun _ _ e=>by rw[h]; exact e) (.at_ 8 _ _ rfl (Yt (hbad))),mv,op_no 9 rfl rfl (by simp) (by kernel_rfl) (.none (by kernel_rfl)) (.here 10 rfl),op_no 9 rfl rfl (by simp) (by kernel_rfl) (.none (by kernel_rfl)) (.here 11 rfl),op_no 9 rfl rfl (by simp) (by kernel_rfl) (.none (by kernel_rfl)) (.here 12 rfl),op_no 9 rfl rfl (by simp) (by kernel_rfl) (.none (by kernel_rfl)) (.here 13 rfl),op_no 9 rfl rfl (by simp) (by kernel_rfl) (.none (by kernel_rfl)) (.here 14 rfl),Zt (b:=true) (.tmp 9 rfl rfl) (fun _=>(.const _)) (fun h=>by cases h) (.here 15 rfl),mv,op_no 16 rfl rfl (by simp) (by kernel_rfl) (.none (by kernel_rfl)) (.here 17 rfl),op_no 16 rfl rfl (by simp) (by kernel_rfl) (.none (by kernel_rfl)) (.here 18 rfl),op_no 16 rfl rfl (by simp) (by kernel_rfl) (.none (by kernel_rfl)) (.here 19 rfl),op_no 16 rfl rfl (by simp) (by kernel_rfl) (.none (by kernel_rfl)) (.here 20 rfl),op_no 16 rfl rfl (by simp) (by kernel_rfl) (.none (by kernel_rfl)) (.here 21 rfl),Zt (b:=true) (.tmp 16 rfl rfl) (fun _=>(.const _)) (fun h=>by cases h) (.here 22 rfl),trivial⟩ (.k .z) (.kddd (.d8 (.d8 (.ddk .z)))) fun a w hI=>?_
 refine Y9 hI 1 rfl ?_
 refine Q3 hI 1 [] [] [Uc 0 2 _] (.k .z) (.t 0 (.k .z)) ⟨mv,trivial⟩ (.k .z) (.ddk .z) fun a w hI=>?_
 refine wp_ret ?_
 refine Xf ?_
 exact Zu hI rfl (.tmp 0 rfl)
theorem c_check_b {X:List (List Rat)} (hn:0<X.length∧X.length≤8) (hbad:(decide (((X.getD 0 []).length:Int)<1)||decide (((X.getD 0 []).length:Int)>8))=true):∀(M:Nat→Nat→Prop) (w:World) (v0:Value),Mid M w→Box M (fun w=>(Qc 1 false X.length (fun i=>Qe (X.getD i []))) w v0) w→Calls Tryz.prog 48 #[v0] w (RetB M (pI 4) w):=by
 intro M w0 v0 hM hv0
 refine Q8 (N:=28) Tryz.func48 rfl rfl rfl hM (show EntsA M w0 [v0] [⟨none,none,0,Qc 1 false X.length (fun i=>Qe (X.getD i []))⟩]from⟨⟨rfl,_,rfl,hv0⟩,trivial⟩) fun a hI=>?_
 refine Q3 hI 2 [⟨1,1,some 0,none,.ptr,25,1,false,pv (Qc 1 false X.length (fun i=>Qe (X.getD i []))),[]⟩] [] [Uc 1 2 _] .z (.k .z) ⟨Qa8 0 rfl rfl (by kernel_rfl) (by kernel_rfl) rfl rfl rfl (.tmp 0 rfl rfl) (V3) rfl,mv,trivial⟩ (.k .z) (.dk .z) fun a w hI=>?_
 refine wp_seq ?_
 refine Q3 hI 22 [] [] [Uc 0 3 (Qc 1 false X.length (fun i=>Qe (X.getD i []))),Uc 1 4 (pI (X.length:Int)),Uc 2 5 (pB false),Uc 3 6 _,Uc 4 7 (Qc 1 false X.length (fun i=>Qe (X.getD i []))),Uc 5 8 (pI (X.length:Int)),Uc 6 9 (pB false),Uc 7 10 (pB false),Uc 8 11 _,Uc 9 12 (Qc 1 false X.length (fun i=>Qe (X.getD i []))),Uc 10 13 _,Uc 11 14 (Qe (X.getD 0 [])),Uc 12 15 (pI ((X.getD 0 []).length:Int)),Uc 13 16 _,Uc 14 17 (pB (decide (((X.getD 0 []).length:Int)<(1:Int)))),Uc 15 18 _,Uc 16 19 (Z2 ((decide (((X.getD 0 []).length:Int)<(1:Int)))=false) (Qc 1 false X.length (fun i=>Qe (X.getD i [])))),Uc 17 20 (Z2 ((decide (((X.getD 0 []).length:Int)<(1:Int)))=false) (Wr 1 false (Qe (X.getD 0 [])))),Uc 18 21 (Z2 ((decide (((X.getD 0 []).length:Int)<(1:Int)))=false) (Qe (X.getD 0 []))),Uc 19 22 (Z2 ((decide (((X.getD 0 []).length:Int)<(1:Int)))=false) (pI ((X.getD 0 []).length:Int))),Uc 20 23 _,Uc 21 24 (pB true)] (.k .z) (.k .z) ⟨Xy 0 rfl rfl rfl rfl (by kernel_rfl) Kk rfl (.here 1 rfl),Qm (.tmp 1 rfl rfl) (Qt).under (.here 2 rfl),Q6 (v:=.bool (decide ((X.length:Int)<(1:Int)))) (.tmp 2 rfl rfl) (.const _) (fun _=>rfl) (.at_ 3 _ _ rfl (Yt ((decide_eq_false (by omega))))),mv,ye (Xy 0 rfl rfl rfl rfl (by kernel_rfl) Kk rfl (.here 5 rfl)),ye (Qm (.tmp 5 rfl rfl) (Qt).under (.here 6 rfl)),ye (Q6 (v:=.bool (decide ((X.length:Int)>(8:Int)))) (.tmp 6 rfl rfl) (.const _) (fun _=>rfl) (.at_ 7 _ _ rfl (Yt ((decide_eq_false (by omega)))))),Zt (b:=false) (.tmp 4 rfl rfl) (fun h=>by cases h) (fun _=>(.tmp 7 rfl rfl)) (.here 8 rfl),mv,ye (Xy 0 rfl rfl rfl rfl (by kernel_rfl) Kk rfl (.here 10 rfl)),ye (ixL Qt),ye (Q5 (.tmp 11 rfl rfl) Xn ((Yj _)) (.here 12 rfl)),ye (Qm (.tmp 12 rfl rfl) (Xb).under (.here 13 rfl)),ye bl,Zt (b:=false) (.tmp 9 rfl rfl) (fun h=>by cases h) (fun _=>(.tmp 14 rfl rfl)) (.here 15 rfl),mv,Jg 16 rfl rfl (fun hc=>Xy 0 rfl rfl rfl rfl (by kernel_rfl) Kk rfl (.sel hc 17 rfl)) (by kernel_rfl) (fun _=>.none (by kernel_rfl)) (fun hc=>.sel_no hc 17 rfl),Jg 16 rfl rfl (fun hc=>Jo (.sel (.tmp 17 rfl rfl) hc) (.const _) Qt (by omega) (by omega) (by kernel_rfl) (.sel hc 18 rfl)) (by kernel_rfl) (fun _=>.none (by kernel_rfl)) (fun hc=>.sel_no hc 18 rfl),Jg 16 rfl rfl (fun hc=>Q5 (.sel (.tmp 18 rfl rfl) hc) Xn ((Yj _)) (.sel hc 19 rfl)) (by kernel_rfl) (fun _=>.none (by kernel_rfl)) (fun hc=>.sel_no hc 19 rfl),Jg 16 rfl rfl (fun hc=>Qm (.sel (.tmp 19 rfl rfl) hc) (Xb).under (.sel hc 20 rfl)) (by kernel_rfl) (fun _=>.none (by kernel_rfl)) (fun hc=>.sel_no hc 20 rfl),gd fun h=>gbl h,Zt (q:=pB ((decide (((X.getD 0 []).length:Int)<(1:Int)))||(decide (((X.getD 0 []).length:Int)>(8:Int))))) (.tmp 16 rfl rfl) (fun h=>.imp (.const _) fun _ _ e=>by rw[h]; exact e) (fun h=>.imp (.sel (.tmp 21 rfl rfl) (h)) fun _ _ e=>by rw[h]; exact e) (.at_ 22 _ _ rfl (Yt (hbad))),trivial⟩ (.k .z) (.kddd (.d8 (.d8 (.ddk .z)))) fun a w hI=>?_
 refine Y9 hI 1 rfl ?_
 refine Q3 hI 1 [] [] [Uc 0 2 _] (.k .z) (.t 0 (.k .z)) ⟨mv,trivial⟩ (.k .z) (.ddk .z) fun a w hI=>?_
 refine wp_ret ?_
 refine Xf ?_
 exact Zu hI rfl (.tmp 0 rfl)
theorem c_check_c {X:List (List Rat)} (hn:0<X.length∧X.length≤8) (hc:0<(X.getD 0 []).length∧(X.getD 0 []).length≤8) (hbad:decide (Ju (fun i=>((X.getD i []).length:Int) != ((X.getD 0 []).length:Int)) X.length≥0)=true):∀(M:Nat→Nat→Prop) (w:World) (v0:Value),Mid M w→Box M (fun w=>(Qc 1 false X.length (fun i=>Qe (X.getD i []))) w v0) w→Calls Tryz.prog 48 #[v0] w (RetB M (pI 4) w):=by
 intro M w0 v0 hM hv0
 have h0:=hn.1
 refine Q8 (N:=28) Tryz.func48 rfl rfl rfl hM (show EntsA M w0 [v0] [⟨none,none,0,Qc 1 false X.length (fun i=>Qe (X.getD i []))⟩]from⟨⟨rfl,_,rfl,hv0⟩,trivial⟩) fun a hI=>?_
 refine Q3 hI 2 [⟨1,1,some 0,none,.ptr,25,1,false,pv (Qc 1 false X.length (fun i=>Qe (X.getD i []))),[]⟩] [] [Uc 1 2 _] .z (.k .z) ⟨Qa8 0 rfl rfl (by kernel_rfl) (by kernel_rfl) rfl rfl rfl (.tmp 0 rfl rfl) (V3) rfl,mv,trivial⟩ (.k .z) (.dk .z) fun a w hI=>?_
 refine wp_seq ?_
 refine Q3 hI 22 [] [] [Uc 0 3 (Qc 1 false X.length (fun i=>Qe (X.getD i []))),Uc 1 4 (pI (X.length:Int)),Uc 2 5 (pB false),Uc 3 6 _,Uc 4 7 (Qc 1 false X.length (fun i=>Qe (X.getD i []))),Uc 5 8 (pI (X.length:Int)),Uc 6 9 (pB false),Uc 7 10 (pB false),Uc 8 11 _,Uc 9 12 (Qc 1 false X.length (fun i=>Qe (X.getD i []))),Uc 10 13 _,Uc 11 14 (Qe (X.getD 0 [])),Uc 12 15 (pI ((X.getD 0 []).length:Int)),Uc 13 16 (pB false),Uc 14 17 (pB false),Uc 15 18 _,Uc 16 19 (Qc 1 false X.length (fun i=>Qe (X.getD i []))),Uc 17 20 _,Uc 18 21 (Qe (X.getD 0 [])),Uc 19 22 (pI ((X.getD 0 []).length:Int)),Uc 20 23 (pB false),Uc 21 24 (pB false)] (.k .z) (.k .z) ⟨Xy 0 rfl rfl rfl rfl (by kernel_rfl) Kk rfl (.here 1 rfl),Qm (.tmp 1 rfl rfl) (Qt).under (.here 2 rfl),Q6 (v:=.bool (decide ((X.length:Int)<(1:Int)))) (.tmp 2 rfl rfl) (.const _) (fun _=>rfl) (.at_ 3 _ _ rfl (Yt ((decide_eq_false (by omega))))),mv,ye (Xy 0 rfl rfl rfl rfl (by kernel_rfl) Kk rfl (.here 5 rfl)),ye (Qm (.tmp 5 rfl rfl) (Qt).under (.here 6 rfl)),ye (Q6 (v:=.bool (decide ((X.length:Int)>(8:Int)))) (.tmp 6 rfl rfl) (.const _) (fun _=>rfl) (.at_ 7 _ _ rfl (Yt ((decide_eq_false (by omega)))))),Zt (b:=false) (.tmp 4 rfl rfl) (fun h=>by cases h) (fun _=>(.tmp 7 rfl rfl)) (.here 8 rfl),mv,ye (Xy 0 rfl rfl rfl rfl (by kernel_rfl) Kk rfl (.here 10 rfl)),ye (ixL Qt),ye (Q5 (.tmp 11 rfl rfl) Xn ((Yj _)) (.here 12 rfl)),ye (Qm (.tmp 12 rfl rfl) (Xb).under (.here 13 rfl)),ye (Q6 (v:=.bool (decide (((X.getD 0 []).length:Int)<(1:Int)))) (.tmp 13 rfl rfl) (.const _) (fun _=>rfl) (.at_ 14 _ _ rfl (Yt ((decide_eq_false (by omega)))))),Zt (b:=false) (.tmp 9 rfl rfl) (fun h=>by cases h) (fun _=>(.tmp 14 rfl rfl)) (.here 15 rfl),mv,ye (Xy 0 rfl rfl rfl rfl (by kernel_rfl) Kk rfl (.here 17 rfl)),ye (ixL Qt),ye (Q5 (.tmp 18 rfl rfl) Xn ((Yj _)) (.here 19 rfl)),ye (Qm (.tmp 19 rfl rfl) (Xb).under (.here 20 rfl)),ye (Q6 (v:=.bool (decide (((X.getD 0 []).length:Int)>(8:Int)))) (.tmp 20 rfl rfl) (.const _) (fun _=>rfl) (.at_ 21 _ _ rfl (Yt ((decide_eq_false (by omega)))))),Zt (b:=false) (.tmp 16 rfl rfl) (fun h=>by cases h) (fun _=>(.tmp 21 rfl rfl)) (.here 22 rfl),trivial⟩ (.k .z) (.kddd (.d8 (.d8 (.ddk .z)))) fun a w hI=>?_
 refine Xv hI 1 rfl ?_
 refine wp_skip ?_
 refine Qb ?_
 refine wp_seq ?_
 obtain⟨p1,hI⟩:=hI.openPtr 0 rfl rfl rfl
 refine Q3 hI 3 [] [] [Uc 0 25 (Qc 1 false X.length (fun i=>Qe (X.getD i []))),Uc 1 26 (Qi (.func (.func 87) #[] #[.pointer (some ⟨p1,0,none⟩)])),Uc 2 27 (pB true)] (.k .z) (.kkk .z) ⟨Xy 0 rfl rfl rfl rfl (by kernel_rfl) Kk rfl (.here 3 rfl),Qe1 (.tmp 0 rfl rfl) (.here 4 rfl),op_callRP (fun _ _=>by kernel_rfl) 0 rfl rfl rfl (by kernel_rfl) rfl (.tmp 0 rfl rfl) (.tmp 3 rfl rfl) (.tmp 4 rfl rfl) (Y2 _) (.at_ 5 _ _ rfl (Yt (hbad))) (Qfd h0 (by omega)),trivial⟩ (.k .z) (.dkdd (.dk .z)) fun a w hI=>?_
 refine Y9 hI 1 rfl ?_
 refine Q3 hI 1 [] [] [Uc 0 2 _] (.k .z) (.t 0 (.k .z)) ⟨mv,trivial⟩ (.k .z) (.ddk .z) fun a w hI=>?_
 refine wp_ret ?_
 refine Xf ?_
 exact Zu hI rfl (.tmp 0 rfl)
theorem c_check_no {X:List (List Rat)} (hX:X.length≤1000000) (hR:¬Right X):∀(M:Nat→Nat→Prop) (w:World) (v0:Value),Mid M w→Box M (fun w=>(Qc 1 false X.length (fun i=>Qe (X.getD i []))) w v0) w→Calls Tryz.prog 48 #[v0] w (RetB M (pI 4) w):=by
 by_cases h1:0<X.length∧X.length≤8
 ·cases h2:(decide (((X.getD 0 []).length:Int)<1)||decide (((X.getD 0 []).length:Int)>8))with
  |true=>exact c_check_b h1 h2
  |false=>
   simp only[Bool.or_eq_false_iff,decide_eq_false_iff_not]at h2
   refine c_check_c h1 (by omega) (decide_eq_true ?_)
   rcases Int.lt_or_le (Ju (fun i=>((X.getD i []).length:Int) != ((X.getD 0 []).length:Int)) X.length) 0 with h3|h3
   ·refine absurd ⟨h1,by omega,fun i hi=>?_⟩ hR
    have:=Qie h3 i hi
    have:=bne_eq_false_iff_eq.1 this
    omega
   ·exact h3
 ·exact c_check_a hX (by cases h:numBad X with
   |true=>rfl
   |false=>exact absurd (Qez.1 h) h1)
theorem c_square_no1 {A:List (List Rat)} (hAl:A.length≤1000000) (hA:¬Right A):∀(M:Nat→Nat→Prop) (w:World) (v0:Value),Mid M w→Box M (fun w=>(Qc 1 false A.length (fun i=>Qe (A.getD i []))) w v0) w→Calls Tryz.prog 36 #[v0] w (RetB M (pI 4) w):=by
 intro M w0 v0 hM hv0
 refine Q8 (N:=16) Tryz.func36 rfl rfl rfl hM (show EntsA M w0 [v0] [⟨none,none,0,Qc 1 false A.length (fun i=>Qe (A.getD i []))⟩]from⟨⟨rfl,_,rfl,hv0⟩,trivial⟩) fun a hI=>?_
 refine Qj hI 1 [Uc 0 2 _] (.k .z) ⟨mv,trivial⟩ (.kk .z) fun a w hI=>?_
 refine wp_seq ?_
 refine Qj hI 3 [Uc 0 4 _,Uc 1 5 _,Uc 2 3 _] (.kk .z) ⟨mv,Z0 (c_check_no hAl hA),mv,trivial⟩ (.kkdd (.k .z)) fun a w hI=>?_
 refine Qj hI 2 [Uc 0 6 _,Uc 1 7 (pB true)] (.kkk .z) ⟨mv,Q6 (v:=.bool (true)) (.tmp 3 rfl rfl) (.const _) (fun _=>rfl) (.here 4 rfl),trivial⟩ (.kkkd (.k .z)) fun a w hI=>?_
 refine Y9 hI 3 rfl ?_
 refine Qj hI 2 [Uc 0 8 _,Uc 1 2 _] (.k (.t 1 (.kk .z))) ⟨mv,mv,trivial⟩ (.kddd (.dk .z)) fun a w hI=>?_
 refine wp_ret ?_
 refine Xf ?_
 exact Zu hI rfl (.tmp 1 rfl)
theorem c_square_no2 {A:List (List Rat)} (hA:Right A) (hne:(A.getD 0 []).length≠A.length):∀(M:Nat→Nat→Prop) (w:World) (v0:Value),Mid M w→Box M (fun w=>(Qc 1 false A.length (fun i=>Qe (A.getD i []))) w v0) w→Calls Tryz.prog 36 #[v0] w (RetB M (pI 4) w):=by
 intro M w0 v0 hM hv0
 have h0:=hA.rows
 have h0':=hA.cols
 refine Q8 (N:=16) Tryz.func36 rfl rfl rfl hM (show EntsA M w0 [v0] [⟨none,none,0,Qc 1 false A.length (fun i=>Qe (A.getD i []))⟩]from⟨⟨rfl,_,rfl,hv0⟩,trivial⟩) fun a hI=>?_
 refine Qj hI 1 [Uc 0 2 _] (.k .z) ⟨mv,trivial⟩ (.kk .z) fun a w hI=>?_
 refine wp_seq ?_
 refine Qj hI 3 [Uc 0 4 _,Uc 1 5 _,Uc 2 3 _] (.kk .z) ⟨mv,Z0 (Qcc hA),mv,trivial⟩ (.kkdd (.k .z)) fun a w hI=>?_
 refine Qj hI 2 [Uc 0 6 _,Uc 1 7 (pB false)] (.kkk .z) ⟨mv,Q6 (v:=.bool (false)) (.tmp 3 rfl rfl) (.const _) (fun _=>rfl) (.here 4 rfl),trivial⟩ (.kkkd (.k .z)) fun a w hI=>?_
 refine Xv hI 3 rfl ?_
 refine wp_skip ?_
 refine Qb ?_
 refine wp_seq ?_
 refine Qj hI 7 [Uc 0 9 _,Uc 1 10 (pI (A.length:Int)),Uc 2 11 _,Uc 3 12 _,Uc 4 13 (Qe (A.getD 0 [])),Uc 5 14 (pI ((A.getD 0 []).length:Int)),Uc 6 15 (pB true)] (.kkkk .z) ⟨mv,Qm (.tmp 4 rfl rfl) (Qt).under (.here 5 rfl),mv,ixL Qt,Q5 (.tmp 7 rfl rfl) Xn ((Yj _)) (.here 8 rfl),Qm (.tmp 8 rfl rfl) (Xb).under (.here 9 rfl),Q6 (v:=.bool (((A.length:Int) != ((A.getD 0 []).length:Int)))) (.tmp 5 rfl rfl) (.tmp 9 rfl rfl) (fun _=>rfl) (.at_ 10 _ _ rfl (Yt ((bne_iff_ne.2 (by omega))))),trivial⟩ (.dkdd (.dddd (.ddk .z))) fun a w hI=>?_
 refine Y9 hI 1 rfl ?_
 refine Qj hI 1 [Uc 0 2 _] (.t 0 (.k .z)) ⟨mv,trivial⟩ (.ddk .z) fun a w hI=>?_
 refine wp_ret ?_
 refine Xf ?_
 exact Zu hI rfl (.tmp 0 rfl)
theorem c_sq_no {A:List (List Rat)} (hAl:A.length≤1000000) (h:¬SqOk A):∀(M:Nat→Nat→Prop) (w:World) (v0:Value),Mid M w→Box M (fun w=>(Qc 1 false A.length (fun i=>Qe (A.getD i []))) w v0) w→Calls Tryz.prog 36 #[v0] w (RetB M (pI 4) w):=by
 by_cases hA:Right A
 ·exact c_square_no2 hA (fun e=>h ⟨hA,e.symm⟩)
 ·exact c_square_no1 hAl hA
theorem c_Solve_no1 {A:List (List Rat)} {b:List Rat} (hAl:A.length≤1000000) (hR:¬SqOk A):∀(M:Nat→Nat→Prop) (w:World) (v0 v1:Value),Mid M w→Box M (fun w=>(Qc 1 false A.length (fun i=>Qe (A.getD i []))) w v0) w→Box M (fun w=>(Qe b) w v1) w→Calls Tryz.prog 24 #[v0,v1] w (RetB M (Xr (Qi (.slice none 0 0)) (pI 4)) w):=by
 intro M w0 v0 v1 hM hv0 hv1
 refine Q8 (N:=22) Tryz.func24 rfl rfl rfl hM (show EntsA M w0 [v0,v1] [⟨none,none,0,Qc 1 false A.length (fun i=>Qe (A.getD i []))⟩,⟨none,none,1,Qe b⟩]from⟨⟨rfl,_,rfl,hv0⟩,⟨rfl,_,rfl,hv1⟩,trivial⟩) fun a hI=>?_
 refine Qj hI 2 [Uc 0 4 _,Uc 1 5 _] (.kk .z) ⟨mv,mv,trivial⟩ (.kkkk .z) fun a w hI=>?_
 refine wp_seq ?_
 refine Qj hI 3 [Uc 0 7 _,Uc 1 8 _,Uc 2 6 _] (.kkkk .z) ⟨mv,Z0 (c_sq_no hAl hR),mv,trivial⟩ (.kkkk (.ddk .z)) fun a w hI=>?_
 refine Qj hI 2 [Uc 0 9 _,Uc 1 10 (pB true)] (.kkkk (.k .z)) ⟨mv,Q6 (v:=.bool (true)) (.tmp 5 rfl rfl) (.const _) (fun _=>rfl) (.here 6 rfl),trivial⟩ (.kkkk (.kdk .z)) fun a w hI=>?_
 refine Y9 hI 5 rfl ?_
 refine Qj hI 3 [Uc 0 11 _,Uc 1 4 _,Uc 2 5 _] (.kk (.t 1 (.t 2 (.kk .z)))) ⟨mv,mv,mv,trivial⟩ (.kkdd (.dddk (.k .z))) fun a w hI=>?_
 refine wp_ret ?_
 refine Xf ?_
 exact K3 hI rfl (.tmp 2 rfl) (.tmp 3 rfl)
theorem c_Inverse_no1 {A:List (List Rat)} (hAl:A.length≤1000000) (hR:¬SqOk A):∀(M:Nat→Nat→Prop) (w:World) (v0:Value),Mid M w→Box M (fun w=>(Qc 1 false A.length (fun i=>Qe (A.getD i []))) w v0) w→Calls Tryz.prog 26 #[v0] w (RetB M (Xr (Qi (.slice none 0 0)) (pI 4)) w):=by
 intro M w0 v0 hM hv0
 refine Q8 (N:=45) Tryz.func26 rfl rfl rfl hM (show EntsA M w0 [v0] [⟨none,none,0,Qc 1 false A.length (fun i=>Qe (A.getD i []))⟩]from⟨⟨rfl,_,rfl,hv0⟩,trivial⟩) fun a hI=>?_
 refine Qj hI 2 [Uc 0 2 _,Uc 1 3 _] (.k .z) ⟨mv,mv,trivial⟩ (.kkk .z) fun a w hI=>?_
 refine wp_seq ?_
 refine Qj hI 3 [Uc 0 9 _,Uc 1 10 _,Uc 2 4 _] (.kkk .z) ⟨mv,Z0 (c_sq_no hAl hR),mv,trivial⟩ (.kkkd (.dk .z)) fun a w hI=>?_
 refine Qj hI 2 [Uc 0 11 _,Uc 1 12 (pB true)] (.kkkk .z) ⟨mv,Q6 (v:=.bool (true)) (.tmp 4 rfl rfl) (.const _) (fun _=>rfl) (.here 5 rfl),trivial⟩ (.kkkk (.dk .z)) fun a w hI=>?_
 refine Y9 hI 4 rfl ?_
 refine Qj hI 3 [Uc 0 13 _,Uc 1 2 _,Uc 2 3 _] (.k (.t 1 (.t 2 (.kk .z)))) ⟨mv,mv,mv,trivial⟩ (.kddd (.ddkk .z)) fun a w hI=>?_
 refine wp_ret ?_
 refine Xf ?_
 exact K3 hI rfl (.tmp 1 rfl) (.tmp 2 rfl)
theorem c_Solve_no2 {A:List (List Rat)} {b:List Rat} (hR:SqOk A) (hbl:b.length≠A.length):∀(M:Nat→Nat→Prop) (w:World) (v0 v1:Value),Mid M w→Box M (fun w=>(Qc 1 false A.length (fun i=>Qe (A.getD i []))) w v0) w→Box M (fun w=>(Qe b) w v1) w→Calls Tryz.prog 24 #[v0,v1] w (RetB M (Xr (Qi (.slice none 0 0)) (pI 4)) w):=by
 intro M w0 v0 v1 hM hv0 hv1
 have h0:=hR.1.rows
 refine Q8 (N:=22) Tryz.func24 rfl rfl rfl hM (show EntsA M w0 [v0,v1] [⟨none,none,0,Qc 1 false A.length (fun i=>Qe (A.getD i []))⟩,⟨none,none,1,Qe b⟩]from⟨⟨rfl,_,rfl,hv0⟩,⟨rfl,_,rfl,hv1⟩,trivial⟩) fun a hI=>?_
 refine Qj hI 2 [Uc 0 4 _,Uc 1 5 _] (.kk .z) ⟨mv,mv,trivial⟩ (.kkkk .z) fun a w hI=>?_
 refine wp_seq ?_
 refine Qj hI 3 [Uc 0 7 _,Uc 1 8 _,Uc 2 6 _] (.kkkk .z) ⟨mv,Z0 (Qa4 hR.1 hR.2.symm),mv,trivial⟩ (.kkkk (.ddk .z)) fun a w hI=>?_
 refine Qj hI 2 [Uc 0 9 _,Uc 1 10 (pB false)] (.kkkk (.k .z)) ⟨mv,Q6 (v:=.bool (false)) (.tmp 5 rfl rfl) (.const _) (fun _=>rfl) (.here 6 rfl),trivial⟩ (.kkkk (.kdk .z)) fun a w hI=>?_
 refine Xv hI 5 rfl ?_
 refine wp_skip ?_
 refine Qb ?_
 refine wp_seq ?_
 refine Qj hI 5 [Uc 0 12 _,Uc 1 13 (pI (b.length:Int)),Uc 2 14 _,Uc 3 15 (pI (A.length:Int)),Uc 4 16 (pB true)] (.kkkk (.kk .z)) ⟨mv,Qm (.tmp 6 rfl rfl) (Xb).under (.here 7 rfl),mv,Qm (.tmp 8 rfl rfl) (Qt).under (.here 9 rfl),Q6 (v:=.bool (((b.length:Int) != (A.length:Int)))) (.tmp 7 rfl rfl) (.tmp 9 rfl rfl) (fun _=>rfl) (.at_ 10 _ _ rfl (Yt ((bne_iff_ne.2 (by omega))))),trivial⟩ (.kkkk (.dddd (.ddk .z))) fun a w hI=>?_
 refine Y9 hI 4 rfl ?_
 refine Qj hI 2 [Uc 0 4 _,Uc 1 5 _] (.kk (.t 0 (.t 1 (.k .z)))) ⟨mv,mv,trivial⟩ (.kkdd (.dkk .z)) fun a w hI=>?_
 refine wp_ret ?_
 refine Xf ?_
 exact K3 hI rfl (.tmp 2 rfl) (.tmp 3 rfl)
theorem c_Least_no1 {A:List (List Rat)} {b:List Rat} (hAl:A.length≤1000000) (hA:¬Right A):∀(M:Nat→Nat→Prop) (w:World) (v0 v1:Value),Mid M w→Box M (fun w=>(Qc 1 false A.length (fun i=>Qe (A.getD i []))) w v0) w→Box M (fun w=>(Qe b) w v1) w→Calls Tryz.prog 28 #[v0,v1] w (RetB M (Xr (Qi (.slice none 0 0)) (pI 4)) w):=by
 intro M w0 v0 v1 hM hv0 hv1
 refine Q8 (N:=33) Tryz.func28 rfl rfl rfl hM (show EntsA M w0 [v0,v1] [⟨none,none,0,Qc 1 false A.length (fun i=>Qe (A.getD i []))⟩,⟨none,none,1,Qe b⟩]from⟨⟨rfl,_,rfl,hv0⟩,⟨rfl,_,rfl,hv1⟩,trivial⟩) fun a hI=>?_
 refine Qj hI 2 [Uc 0 4 _,Uc 1 5 _] (.kk .z) ⟨mv,mv,trivial⟩ (.kkkk .z) fun a w hI=>?_
 refine wp_seq ?_
 refine Qj hI 3 [Uc 0 8 _,Uc 1 9 _,Uc 2 6 _] (.kkkk .z) ⟨mv,Z0 (c_check_no hAl hA),mv,trivial⟩ (.kkkk (.ddk .z)) fun a w hI=>?_
 refine Qj hI 2 [Uc 0 10 _,Uc 1 11 (pB true)] (.kkkk (.k .z)) ⟨mv,Q6 (v:=.bool (true)) (.tmp 5 rfl rfl) (.const _) (fun _=>rfl) (.here 6 rfl),trivial⟩ (.kkkk (.kdk .z)) fun a w hI=>?_
 refine Y9 hI 5 rfl ?_
 refine Qj hI 3 [Uc 0 12 _,Uc 1 4 _,Uc 2 5 _] (.kk (.t 1 (.t 2 (.kk .z)))) ⟨mv,mv,mv,trivial⟩ (.kkdd (.dddk (.k .z))) fun a w hI=>?_
 refine wp_ret ?_
 refine Xf ?_
 exact K3 hI rfl (.tmp 2 rfl) (.tmp 3 rfl)
theorem c_Least_no2 {A:List (List Rat)} {b:List Rat} (hA:Right A) (hbl:b.length≠A.length):∀(M:Nat→Nat→Prop) (w:World) (v0 v1:Value),Mid M w→Box M (fun w=>(Qc 1 false A.length (fun i=>Qe (A.getD i []))) w v0) w→Box M (fun w=>(Qe b) w v1) w→Calls Tryz.prog 28 #[v0,v1] w (RetB M (Xr (Qi (.slice none 0 0)) (pI 4)) w):=by
 intro M w0 v0 v1 hM hv0 hv1
 have h0:=hA.rows
 refine Q8 (N:=33) Tryz.func28 rfl rfl rfl hM (show EntsA M w0 [v0,v1] [⟨none,none,0,Qc 1 false A.length (fun i=>Qe (A.getD i []))⟩,⟨none,none,1,Qe b⟩]from⟨⟨rfl,_,rfl,hv0⟩,⟨rfl,_,rfl,hv1⟩,trivial⟩) fun a hI=>?_
 refine Qj hI 2 [Uc 0 4 _,Uc 1 5 _] (.kk .z) ⟨mv,mv,trivial⟩ (.kkkk .z) fun a w hI=>?_
 refine wp_seq ?_
 refine Qj hI 3 [Uc 0 8 _,Uc 1 9 _,Uc 2 6 _] (.kkkk .z) ⟨mv,Z0 (Qcc hA),mv,trivial⟩ (.kkkk (.ddk .z)) fun a w hI=>?_
 refine Qj hI 2 [Uc 0 10 _,Uc 1 11 (pB false)] (.kkkk (.k .z)) ⟨mv,Q6 (v:=.bool (false)) (.tmp 5 rfl rfl) (.const _) (fun _=>rfl) (.here 6 rfl),trivial⟩ (.kkkk (.kdk .z)) fun a w hI=>?_
 refine Xv hI 5 rfl ?_
 refine wp_skip ?_
 refine Qb ?_
 refine wp_seq ?_
 refine Qj hI 5 [Uc 0 13 _,Uc 1 14 (pI (b.length:Int)),Uc 2 15 _,Uc 3 16 (pI (A.length:Int)),Uc 4 17 (pB true)] (.kkkk (.kk .z)) ⟨mv,Qm (.tmp 6 rfl rfl) (Xb).under (.here 7 rfl),mv,Qm (.tmp 8 rfl rfl) (Qt).under (.here 9 rfl),Q6 (v:=.bool (((b.length:Int) != (A.length:Int)))) (.tmp 7 rfl rfl) (.tmp 9 rfl rfl) (fun _=>rfl) (.at_ 10 _ _ rfl (Yt ((bne_iff_ne.2 (by omega))))),trivial⟩ (.kkkk (.dddd (.ddk .z))) fun a w hI=>?_
 refine Y9 hI 4 rfl ?_
 refine Qj hI 2 [Uc 0 4 _,Uc 1 5 _] (.kk (.t 0 (.t 1 (.k .z)))) ⟨mv,mv,trivial⟩ (.kkdd (.dkk .z)) fun a w hI=>?_
 refine wp_ret ?_
 refine Xf ?_
 exact K3 hI rfl (.tmp 2 rfl) (.tmp 3 rfl)
end Wx
