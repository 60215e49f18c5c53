import Derived.Test.YtpiniclogfefjaaGreatJMatrices44
namespace Wx
set_option maxRecDepth 100000
open Go Go.RowKit Go.Proofs
set_option linter.unusedVariables false

theorem c_check_a {X:List (List Rat)} (hX:X.length≤1000000) (hbad:numBad X=true):∀(M:Nat→Nat→Prop) (w:World) (v0:Value),Mid M w→Box M (fun w=>(Qr Qd X) w v0) w→Calls Tryz.prog 48 #[v0] w (RetB M (pI 4) w):=by
 intro M w0 v0 hM hv0
 refine Q5 (N:=28) Tryz.func48 rfl rfl rfl hM (show EntsA M w0 [v0] [Ez 0 (Qr Qd X)]from⟨⟨rfl,_,rfl,hv0⟩,trivial⟩) fun a hI=>?_
 refine Ql hI [⟨1,1,some 0,none,.ptr,25,1,false,pv (Qr Qd X),[]⟩] [Ec 1 2 (pI 0)] [0,1] .z (.k .z) ?_ (.k .z) (.dk .z) fun a w hI=>?_
 ·exact⟨Us 0 rfl rfl (by kernel_rfl) (by kernel_rfl) rfl rfl rfl (.tp 0 rfl) (Wy) rfl,Qc (.const _) (.here 1 rfl),trivial⟩
 refine wp_seq ?_
 refine Ql hI [] [Ec 0 3 (Qr Qd X),Ec 1 4 (pI (X.length:Int)),Ec 2 5 (pB (decide ((X.length:Int)<(1:Int)))),Ec 3 6 (pB (decide ((X.length:Int)<(1:Int)))),Ec 4 7 (X4 ((decide ((X.length:Int)<(1:Int)))=false) (Qr Qd X)),Ec 5 8 (X4 ((decide ((X.length:Int)<(1:Int)))=false) (pI (X.length:Int))),Ec 6 9 (X4 ((decide ((X.length:Int)<(1:Int)))=false) (pB (decide ((X.length:Int)>(8:Int))))),Ec 7 10 (pB true),Ec 8 11 (pB true),Ec 9 12 (Qs undef),Ec 10 13 (Qs undef),Ec 11 14 (Qs undef),Ec 12 15 (Qs undef),Ec 13 16 (Qs undef),Ec 14 17 (pB true),Ec 15 18 (pB true),Ec 16 19 (Qs undef),Ec 17 20 (Qs undef),Ec 18 21 (Qs undef),Ec 19 22 (Qs undef),Ec 20 23 (Qs undef),Ec 21 24 (pB true)] [0,1,3,7,15,31,63,127,255,511,1023,2047,4095,8191,16383,32767,65535,131071,262143,524287,1048575,2097151] (.k .z) (.k .z) ?_ (.k .z) (.kddd (.d8 (.d8 (.ddk .z)))) fun a w hI=>?_
 ·exact⟨Xp 0 rfl rfl rfl rfl (by kernel_rfl) Jw rfl (.here 1 rfl),Q4 (.tp 1 rfl) (Xb).under (.here 2 rfl),Qk (v:=.bool (decide ((X.length:Int)<(1:Int)))) (.tp 2 rfl) (.const _) (fun _=>rfl) (.here 3 rfl),Qa (.tp 3 rfl) (.here 4 rfl),Xd 4 rfl rfl (fun hc=>Xp 0 rfl rfl rfl rfl (by kernel_rfl) Jw rfl (.sel hc 5 rfl)) 5 rfl,Xd 4 rfl rfl (fun hc=>Q4 (.sel (.tp 5 rfl) hc) (Xb).under (.sel hc 6 rfl)) 6 rfl,Xd 4 rfl rfl (fun hc=>Qk (v:=.bool (decide ((X.length:Int)>(8:Int)))) (.sel (.tp 6 rfl) hc) (.const _) (fun _=>rfl) (.sel hc 7 rfl)) 7 rfl,Yl (q:=pB ((decide ((X.length:Int)<(1:Int)))||(decide ((X.length:Int)>(8:Int))))) (.tp 4 rfl) (fun h=>.imp (.const _) fun _ _ e=>by rw[h]; exact e) (fun h=>.imp (.sel (.tp 7 rfl) (h)) fun _ _ e=>by rw[h]; exact e) (.at_ 8 _ _ rfl (Y7 (hbad))),Qa (.tp 8 rfl) (.here 9 rfl),op_no 9 rfl rfl (by simp) (by kernel_rfl) (.none (by kernel_rfl)) (.here 10 rfl),op_no 9 rfl rfl (by simp) (by kernel_rfl) (.none (by kernel_rfl)) (.here 11 rfl),op_no 9 rfl rfl (by simp) (by kernel_rfl) (.none (by kernel_rfl)) (.here 12 rfl),op_no 9 rfl rfl (by simp) (by kernel_rfl) (.none (by kernel_rfl)) (.here 13 rfl),op_no 9 rfl rfl (by simp) (by kernel_rfl) (.none (by kernel_rfl)) (.here 14 rfl),Yl (b:=true) (.tp 9 rfl) (fun _=>(.const _)) (fun h=>by cases h) (.here 15 rfl),Qa (.tp 15 rfl) (.here 16 rfl),op_no 16 rfl rfl (by simp) (by kernel_rfl) (.none (by kernel_rfl)) (.here 17 rfl),op_no 16 rfl rfl (by simp) (by kernel_rfl) (.none (by kernel_rfl)) (.here 18 rfl),op_no 16 rfl rfl (by simp) (by kernel_rfl) (.none (by kernel_rfl)) (.here 19 rfl),op_no 16 rfl rfl (by simp) (by kernel_rfl) (.none (by kernel_rfl)) (.here 20 rfl),op_no 16 rfl rfl (by simp) (by kernel_rfl) (.none (by kernel_rfl)) (.here 21 rfl),Yl (b:=true) (.tp 16 rfl) (fun _=>(.const _)) (fun h=>by cases h) (.here 22 rfl),trivial⟩
 refine Zk hI 1 rfl ?_
 refine Ql hI [] [Ec 0 2 (pI 4)] [0] (.k .z) (.t 0 (.k .z)) ?_ (.k .z) (.ddk .z) fun a w hI=>?_
 ·exact⟨Qc (.const _) (.here 2 rfl),trivial⟩
 refine wp_ret ?_
 refine Xh ?_
 exact Zu hI rfl (.tmp 0 rfl)
theorem c_check_b {X:List (List Rat)} (hn:0<X.length∧X.length≤8) (hbad:(decide (((X.getD 0 []).length:Int)<1)||decide (((X.getD 0 []).length:Int)>8))=true):∀(M:Nat→Nat→Prop) (w:World) (v0:Value),Mid M w→Box M (fun w=>(Qr Qd X) w v0) w→Calls Tryz.prog 48 #[v0] w (RetB M (pI 4) w):=by
 intro M w0 v0 hM hv0
 refine Q5 (N:=28) Tryz.func48 rfl rfl rfl hM (show EntsA M w0 [v0] [Ez 0 (Qr Qd X)]from⟨⟨rfl,_,rfl,hv0⟩,trivial⟩) fun a hI=>?_
 refine Ql hI [⟨1,1,some 0,none,.ptr,25,1,false,pv (Qr Qd X),[]⟩] [Ec 1 2 (pI 0)] [0,1] .z (.k .z) ?_ (.k .z) (.dk .z) fun a w hI=>?_
 ·exact⟨Us 0 rfl rfl (by kernel_rfl) (by kernel_rfl) rfl rfl rfl (.tp 0 rfl) (Wy) rfl,Qc (.const _) (.here 1 rfl),trivial⟩
 refine wp_seq ?_
 refine Ql hI [] [Ec 0 3 (Qr Qd X),Ec 1 4 (pI (X.length:Int)),Ec 2 5 (pB false),Ec 3 6 (pB false),Ec 4 7 (Qr Qd X),Ec 5 8 (pI (X.length:Int)),Ec 6 9 (pB false),Ec 7 10 (pB false),Ec 8 11 (pB false),Ec 9 12 (Qr Qd X),Ec 10 13 (Ye 1 false (Qd (X.getD 0 []))),Ec 11 14 (Qd (X.getD 0 [])),Ec 12 15 (pI ((X.getD 0 []).length:Int)),Ec 13 16 (pB (decide (((X.getD 0 []).length:Int)<(1:Int)))),Ec 14 17 (pB (decide (((X.getD 0 []).length:Int)<(1:Int)))),Ec 15 18 (pB (decide (((X.getD 0 []).length:Int)<(1:Int)))),Ec 16 19 (X4 ((decide (((X.getD 0 []).length:Int)<(1:Int)))=false) (Qr Qd X)),Ec 17 20 (X4 ((decide (((X.getD 0 []).length:Int)<(1:Int)))=false) (Ye 1 false (Qd (X.getD 0 [])))),Ec 18 21 (X4 ((decide (((X.getD 0 []).length:Int)<(1:Int)))=false) (Qd (X.getD 0 []))),Ec 19 22 (X4 ((decide (((X.getD 0 []).length:Int)<(1:Int)))=false) (pI ((X.getD 0 []).length:Int))),Ec 20 23 (X4 ((decide (((X.getD 0 []).length:Int)<(1:Int)))=false) (pB (decide (((X.getD 0 []).length:Int)>(8:Int))))),Ec 21 24 (pB true)] [0,1,3,7,15,31,63,127,255,511,1023,2047,4095,8191,16383,32767,65535,131071,262143,524287,1048575,2097151] (.k .z) (.k .z) ?_ (.k .z) (.kddd (.d8 (.d8 (.ddk .z)))) fun a w hI=>?_
 ·exact⟨Xp 0 rfl rfl rfl rfl (by kernel_rfl) Jw rfl (.here 1 rfl),Q4 (.tp 1 rfl) (Xb).under (.here 2 rfl),Qk (v:=.bool (decide ((X.length:Int)<(1:Int)))) (.tp 2 rfl) (.const _) (fun _=>rfl) (.at_ 3 _ _ rfl (Y7 ((decide_eq_false (by omega))))),Qa (.tp 3 rfl) (.here 4 rfl),Xt 4 rfl rfl (Xp 0 rfl rfl rfl rfl (by kernel_rfl) Jw rfl (.here 5 rfl)),Xt 4 rfl rfl (Q4 (.tp 5 rfl) (Xb).under (.here 6 rfl)),Xt 4 rfl rfl (Qk (v:=.bool (decide ((X.length:Int)>(8:Int)))) (.tp 6 rfl) (.const _) (fun _=>rfl) (.at_ 7 _ _ rfl (Y7 ((decide_eq_false (by omega)))))),Yl (b:=false) (.tp 4 rfl) (fun h=>by cases h) (fun _=>(.tp 7 rfl)) (.here 8 rfl),Qa (.tp 8 rfl) (.here 9 rfl),Xt 9 rfl rfl (Xp 0 rfl rfl rfl rfl (by kernel_rfl) Jw rfl (.here 10 rfl)),Xt 9 rfl rfl (Qw (.tp 10 rfl) (.const _) Xb (.here 11 rfl)),Xt 9 rfl rfl (Q7 (.tp 11 rfl) X6 ((Y6 _)) (.here 12 rfl)),Xt 9 rfl rfl (Q4 (.tp 12 rfl) (Xo).under (.here 13 rfl)),Xt 9 rfl rfl (Qk (v:=.bool (decide (((X.getD 0 []).length:Int)<(1:Int)))) (.tp 13 rfl) (.const _) (fun _=>rfl) (.here 14 rfl)),Yl (b:=false) (.tp 9 rfl) (fun h=>by cases h) (fun _=>(.tp 14 rfl)) (.here 15 rfl),Qa (.tp 15 rfl) (.here 16 rfl),Xd 16 rfl rfl (fun hc=>Xp 0 rfl rfl rfl rfl (by kernel_rfl) Jw rfl (.sel hc 17 rfl)) 17 rfl,Xd 16 rfl rfl (fun hc=>Qw (.sel (.tp 17 rfl) hc) (.const _) Xb (.sel hc 18 rfl)) 18 rfl,Xd 16 rfl rfl (fun hc=>Q7 (.sel (.tp 18 rfl) hc) X6 ((Y6 _)) (.sel hc 19 rfl)) 19 rfl,Xd 16 rfl rfl (fun hc=>Q4 (.sel (.tp 19 rfl) hc) (Xo).under (.sel hc 20 rfl)) 20 rfl,Xd 16 rfl rfl (fun hc=>Qk (v:=.bool (decide (((X.getD 0 []).length:Int)>(8:Int)))) (.sel (.tp 20 rfl) hc) (.const _) (fun _=>rfl) (.sel hc 21 rfl)) 21 rfl,Yl (q:=pB ((decide (((X.getD 0 []).length:Int)<(1:Int)))||(decide (((X.getD 0 []).length:Int)>(8:Int))))) (.tp 16 rfl) (fun h=>.imp (.const _) fun _ _ e=>by rw[h]; exact e) (fun h=>.imp (.sel (.tp 21 rfl) (h)) fun _ _ e=>by rw[h]; exact e) (.at_ 22 _ _ rfl (Y7 (hbad))),trivial⟩
 refine Zk hI 1 rfl ?_
 refine Ql hI [] [Ec 0 2 (pI 4)] [0] (.k .z) (.t 0 (.k .z)) ?_ (.k .z) (.ddk .z) fun a w hI=>?_
 ·exact⟨Qc (.const _) (.here 2 rfl),trivial⟩
 refine wp_ret ?_
 refine Xh ?_
 exact Zu hI rfl (.tmp 0 rfl)
theorem c_check_c {X:List (List Rat)} (hn:0<X.length∧X.length≤8) (hc:0<(X.getD 0 []).length∧(X.getD 0 []).length≤8) (hbad:decide (Z3 (fun i=>((X.getD i []).length:Int) != ((X.getD 0 []).length:Int)) X.length≥0)=true):∀(M:Nat→Nat→Prop) (w:World) (v0:Value),Mid M w→Box M (fun w=>(Qr Qd X) w v0) w→Calls Tryz.prog 48 #[v0] w (RetB M (pI 4) w):=by
 intro M w0 v0 hM hv0
 have h0:=hn.1
 refine Q5 (N:=28) Tryz.func48 rfl rfl rfl hM (show EntsA M w0 [v0] [Ez 0 (Qr Qd X)]from⟨⟨rfl,_,rfl,hv0⟩,trivial⟩) fun a hI=>?_
 refine Ql hI [⟨1,1,some 0,none,.ptr,25,1,false,pv (Qr Qd X),[]⟩] [Ec 1 2 (pI 0)] [0,1] .z (.k .z) ?_ (.k .z) (.dk .z) fun a w hI=>?_
 ·exact⟨Us 0 rfl rfl (by kernel_rfl) (by kernel_rfl) rfl rfl rfl (.tp 0 rfl) (Wy) rfl,Qc (.const _) (.here 1 rfl),trivial⟩
 refine wp_seq ?_
 refine Ql hI [] [Ec 0 3 (Qr Qd X),Ec 1 4 (pI (X.length:Int)),Ec 2 5 (pB false),Ec 3 6 (pB false),Ec 4 7 (Qr Qd X),Ec 5 8 (pI (X.length:Int)),Ec 6 9 (pB false),Ec 7 10 (pB false),Ec 8 11 (pB false),Ec 9 12 (Qr Qd X),Ec 10 13 (Ye 1 false (Qd (X.getD 0 []))),Ec 11 14 (Qd (X.getD 0 [])),Ec 12 15 (pI ((X.getD 0 []).length:Int)),Ec 13 16 (pB false),Ec 14 17 (pB false),Ec 15 18 (pB false),Ec 16 19 (Qr Qd X),Ec 17 20 (Ye 1 false (Qd (X.getD 0 []))),Ec 18 21 (Qd (X.getD 0 [])),Ec 19 22 (pI ((X.getD 0 []).length:Int)),Ec 20 23 (pB false),Ec 21 24 (pB false)] [0,1,3,7,15,31,63,127,255,511,1023,2047,4095,8191,16383,32767,65535,131071,262143,524287,1048575,2097151] (.k .z) (.k .z) ?_ (.k .z) (.kddd (.d8 (.d8 (.ddk .z)))) fun a w hI=>?_
 ·exact⟨Xp 0 rfl rfl rfl rfl (by kernel_rfl) Jw rfl (.here 1 rfl),Q4 (.tp 1 rfl) (Xb).under (.here 2 rfl),Qk (v:=.bool (decide ((X.length:Int)<(1:Int)))) (.tp 2 rfl) (.const _) (fun _=>rfl) (.at_ 3 _ _ rfl (Y7 ((decide_eq_false (by omega))))),Qa (.tp 3 rfl) (.here 4 rfl),Xt 4 rfl rfl (Xp 0 rfl rfl rfl rfl (by kernel_rfl) Jw rfl (.here 5 rfl)),Xt 4 rfl rfl (Q4 (.tp 5 rfl) (Xb).under (.here 6 rfl)),Xt 4 rfl rfl (Qk (v:=.bool (decide ((X.length:Int)>(8:Int)))) (.tp 6 rfl) (.const _) (fun _=>rfl) (.at_ 7 _ _ rfl (Y7 ((decide_eq_false (by omega)))))),Yl (b:=false) (.tp 4 rfl) (fun h=>by cases h) (fun _=>(.tp 7 rfl)) (.here 8 rfl),Qa (.tp 8 rfl) (.here 9 rfl),Xt 9 rfl rfl (Xp 0 rfl rfl rfl rfl (by kernel_rfl) Jw rfl (.here 10 rfl)),Xt 9 rfl rfl (Qw (.tp 10 rfl) (.const _) Xb (.here 11 rfl)),Xt 9 rfl rfl (Q7 (.tp 11 rfl) X6 ((Y6 _)) (.here 12 rfl)),Xt 9 rfl rfl (Q4 (.tp 12 rfl) (Xo).under (.here 13 rfl)),Xt 9 rfl rfl (Qk (v:=.bool (decide (((X.getD 0 []).length:Int)<(1:Int)))) (.tp 13 rfl) (.const _) (fun _=>rfl) (.at_ 14 _ _ rfl (Y7 ((decide_eq_false (by omega)))))),Yl (b:=false) (.tp 9 rfl) (fun h=>by cases h) (fun _=>(.tp 14 rfl)) (.here 15 rfl),Qa (.tp 15 rfl) (.here 16 rfl),Xt 16 rfl rfl (Xp 0 rfl rfl rfl rfl (by kernel_rfl) Jw rfl (.here 17 rfl)),Xt 16 rfl rfl (Qw (.tp 17 rfl) (.const _) Xb (.here 18 rfl)),Xt 16 rfl rfl (Q7 (.tp 18 rfl) X6 ((Y6 _)) (.here 19 rfl)),Xt 16 rfl rfl (Q4 (.tp 19 rfl) (Xo).under (.here 20 rfl)),Xt 16 rfl rfl (Qk (v:=.bool (decide (((X.getD 0 []).length:Int)>(8:Int)))) (.tp 20 rfl) (.const _) (fun _=>rfl) (.at_ 21 _ _ rfl (Y7 ((decide_eq_false (by omega)))))),Yl (b:=false) (.tp 16 rfl) (fun h=>by cases h) (fun _=>(.tp 21 rfl)) (.here 22 rfl),trivial⟩
 refine Yk hI 1 rfl ?_
 refine wp_skip ?_
 refine Qf ?_
 refine wp_seq ?_
 obtain⟨p1,hI⟩:=hI.openPtr 0 rfl rfl rfl
 refine Ql hI [] [Ec 0 25 (Qr Qd X),Ec 1 26 (Qs (.func (.func 87) #[] #[.pointer (some ⟨p1,0,none⟩)])),Ec 2 27 (pB true)] [0,1,3] (.k .z) (.kkk .z) ?_ (.k .z) (.dkdd (.dk .z)) fun a w hI=>?_
 ·exact⟨Xp 0 rfl rfl rfl rfl (by kernel_rfl) Jw rfl (.here 3 rfl),Qcz (.tp 0 rfl) (.here 4 rfl),op_callRP (fun _ _=>by kernel_rfl) 0 rfl rfl rfl (by kernel_rfl) rfl (.tp 0 rfl) (.tp 3 rfl) (.tp 4 rfl) (Zc _) (.at_ 5 _ _ rfl (Y7 (hbad))) (Qdc h0 (by omega)),trivial⟩
 refine Zk hI 1 rfl ?_
 refine Ql hI [] [Ec 0 2 (pI 4)] [0] (.k .z) (.t 0 (.k .z)) ?_ (.k .z) (.ddk .z) fun a w hI=>?_
 ·exact⟨Qc (.const _) (.here 2 rfl),trivial⟩
 refine wp_ret ?_
 refine Xh ?_
 exact Zu hI rfl (.tmp 0 rfl)
theorem Qbw {X:List (List Rat)} (hX:X.length≤1000000) (hR:¬Right X):∀(M:Nat→Nat→Prop) (w:World) (v0:Value),Mid M w→Box M (fun w=>(Qr Qd X) w v0) w→Calls Tryz.prog 48 #[v0] w (RetB M (pI 4) w):=by
 by_cases h1:0<X.length∧X.length≤8
 ·cases h2:(decide (((X.getD 0 []).length:Int)<1)||decide (((X.getD 0 []).length:Int)>8))with
  |true=>exact c_check_b h1 h2
  |false=>
   simp only[Bool.or_eq_false_iff,decide_eq_false_iff_not]at h2
   refine c_check_c h1 (by omega) (decide_eq_true ?_)
   rcases Int.lt_or_le (Z3 (fun i=>((X.getD i []).length:Int) != ((X.getD 0 []).length:Int)) X.length) 0 with h3|h3
   ·refine absurd ⟨h1,by omega,fun i hi=>?_⟩ hR
    have:=Qfu h3 i hi
    have:=bne_eq_false_iff_eq.1 this
    omega
   ·exact h3
 ·exact c_check_a hX (by cases h:numBad X with
   |true=>rfl
   |false=>exact absurd (Qcy.1 h) h1)
theorem c_square_no1 {A:List (List Rat)} (hAl:A.length≤1000000) (hA:¬Right A):∀(M:Nat→Nat→Prop) (w:World) (v0:Value),Mid M w→Box M (fun w=>(Qr Qd A) w v0) w→Calls Tryz.prog 36 #[v0] w (RetB M (pI 4) w):=by
 intro M w0 v0 hM hv0
 refine Q5 (N:=16) Tryz.func36 rfl rfl rfl hM (show EntsA M w0 [v0] [Ez 0 (Qr Qd A)]from⟨⟨rfl,_,rfl,hv0⟩,trivial⟩) fun a hI=>?_
 refine Qo hI [Ec 0 2 (pI 0)] [0] (.k .z) ?_ (.kk .z) fun a w hI=>?_
 ·exact⟨Qc (.const _) (.here 1 rfl),trivial⟩
 refine wp_seq ?_
 refine Qo hI [Ec 0 4 (Qr Qd A),Ec 1 5 (pI 4),Ec 2 3 (pI 4)] [0,1,3] (.kk .z) ?_ (.kkdd (.k .z)) fun a w hI=>?_
 ·exact⟨Qa (.tp 0 rfl) (.here 2 rfl),Q6 (fun _ _=>by kernel_rfl) (.tp 2 rfl) (.here 3 rfl) (Qbw hAl hA),Qc (.tp 3 rfl) (.here 4 rfl),trivial⟩
 refine Qo hI [Ec 0 6 (pI 4),Ec 1 7 (pB true)] [0,1] (.kkk .z) ?_ (.kkkd (.k .z)) fun a w hI=>?_
 ·exact⟨Qa (.tp 2 rfl) (.here 3 rfl),Qk (v:=.bool (true)) (.tp 3 rfl) (.const _) (fun _=>rfl) (.here 4 rfl),trivial⟩
 refine Zk hI 3 rfl ?_
 refine Qo hI [Ec 0 8 (pI 4),Ec 1 2 (pI 4)] [0,1] (.k (.t 1 (.kk .z))) ?_ (.kddd (.dk .z)) fun a w hI=>?_
 ·exact⟨Qa (.tp 2 rfl) (.here 4 rfl),Qc (.tp 4 rfl) (.here 5 rfl),trivial⟩
 refine wp_ret ?_
 refine Xh ?_
 exact Zu hI rfl (.tmp 1 rfl)
theorem c_square_no2 {A:List (List Rat)} (hA:Right A) (hne:(A.getD 0 []).length≠A.length):∀(M:Nat→Nat→Prop) (w:World) (v0:Value),Mid M w→Box M (fun w=>(Qr Qd A) w v0) w→Calls Tryz.prog 36 #[v0] w (RetB M (pI 4) w):=by
 intro M w0 v0 hM hv0
 have h0:=hA.rows
 have h0':=hA.cols
 refine Q5 (N:=16) Tryz.func36 rfl rfl rfl hM (show EntsA M w0 [v0] [Ez 0 (Qr Qd A)]from⟨⟨rfl,_,rfl,hv0⟩,trivial⟩) fun a hI=>?_
 refine Qo hI [Ec 0 2 (pI 0)] [0] (.k .z) ?_ (.kk .z) fun a w hI=>?_
 ·exact⟨Qc (.const _) (.here 1 rfl),trivial⟩
 refine wp_seq ?_
 refine Qo hI [Ec 0 4 (Qr Qd A),Ec 1 5 (pI 0),Ec 2 3 (pI 0)] [0,1,3] (.kk .z) ?_ (.kkdd (.k .z)) fun a w hI=>?_
 ·exact⟨Qa (.tp 0 rfl) (.here 2 rfl),Q6 (fun _ _=>by kernel_rfl) (.tp 2 rfl) (.here 3 rfl) (Wn hA),Qc (.tp 3 rfl) (.here 4 rfl),trivial⟩
 refine Qo hI [Ec 0 6 (pI 0),Ec 1 7 (pB false)] [0,1] (.kkk .z) ?_ (.kkkd (.k .z)) fun a w hI=>?_
 ·exact⟨Qa (.tp 2 rfl) (.here 3 rfl),Qk (v:=.bool (false)) (.tp 3 rfl) (.const _) (fun _=>rfl) (.here 4 rfl),trivial⟩
 refine Yk hI 3 rfl ?_
 refine wp_skip ?_
 refine Qf ?_
 refine wp_seq ?_
 refine Qo hI [Ec 0 9 (Qr Qd A),Ec 1 10 (pI (A.length:Int)),Ec 2 11 (Qr Qd A),Ec 3 12 (Ye 1 false (Qd (A.getD 0 []))),Ec 4 13 (Qd (A.getD 0 [])),Ec 5 14 (pI ((A.getD 0 []).length:Int)),Ec 6 15 (pB true)] [0,1,3,7,15,31,63] (.kkkk .z) ?_ (.dkdd (.dddd (.ddk .z))) fun a w hI=>?_
 ·exact⟨Qa (.tp 0 rfl) (.here 4 rfl),Q4 (.tp 4 rfl) (Xb).under (.here 5 rfl),Qa (.tp 0 rfl) (.here 6 rfl),Qw (.tp 6 rfl) (.const _) Xb (.here 7 rfl),Q7 (.tp 7 rfl) X6 ((Y6 _)) (.here 8 rfl),Q4 (.tp 8 rfl) (Xo).under (.here 9 rfl),Qk (v:=.bool (((A.length:Int) != ((A.getD 0 []).length:Int)))) (.tp 5 rfl) (.tp 9 rfl) (fun _=>rfl) (.at_ 10 _ _ rfl (Y7 ((bne_iff_ne.2 (by omega))))),trivial⟩
 refine Zk hI 1 rfl ?_
 refine Qo hI [Ec 0 2 (pI 4)] [0] (.t 0 (.k .z)) ?_ (.ddk .z) fun a w hI=>?_
 ·exact⟨Qc (.const _) (.here 2 rfl),trivial⟩
 refine wp_ret ?_
 refine Xh ?_
 exact Zu hI rfl (.tmp 0 rfl)
theorem c_sq_no {A:List (List Rat)} (hAl:A.length≤1000000) (h:¬SqOk A):∀(M:Nat→Nat→Prop) (w:World) (v0:Value),Mid M w→Box M (fun w=>(Qr Qd A) w v0) w→Calls Tryz.prog 36 #[v0] w (RetB M (pI 4) w):=by
 by_cases hA:Right A
 ·exact c_square_no2 hA (fun e=>h ⟨hA,e.symm⟩)
 ·exact c_square_no1 hAl hA
theorem c_Product_no1 {A B:List (List Rat)} (hAl:A.length≤1000000) (hBl:B.length≤1000000) (hA:¬Right A):∀(M:Nat→Nat→Prop) (w:World) (v0 v1:Value),Mid M w→Box M (fun w=>(Qr Qd A) w v0) w→Box M (fun w=>(Qr Qd B) w v1) w→Calls Tryz.prog 14 #[v0,v1] w (RetB M (Xn (Qs (.slice none 0 0)) (pI 4)) w):=by
 intro M w0 v0 v1 hM hv0 hv1
 refine Q5 (N:=28) Tryz.func14 rfl rfl rfl hM (show EntsA M w0 [v0,v1] [Ez 0 (Qr Qd A),Ez 1 (Qr Qd B)]from⟨⟨rfl,_,rfl,hv0⟩,⟨rfl,_,rfl,hv1⟩,trivial⟩) fun a hI=>?_
 refine Qo hI [Ec 0 4 (Qs ((Value.slice none 0 0))),Ec 1 5 (pI 0)] [0,1] (.kk .z) ?_ (.kkkk .z) fun a w hI=>?_
 ·exact⟨Qc (.const _) (.here 2 rfl),Qc (.const _) (.here 3 rfl),trivial⟩
 refine wp_seq ?_
 refine Qo hI [Ec 0 8 (Qr Qd A),Ec 1 9 (pI 4),Ec 2 6 (pI 4)] [0,1,3] (.kkkk .z) ?_ (.kkkk (.ddk .z)) fun a w hI=>?_
 ·exact⟨Qa (.tp 0 rfl) (.here 4 rfl),Q6 (fun _ _=>by kernel_rfl) (.tp 4 rfl) (.here 5 rfl) (Qbw hAl hA),Qc (.tp 5 rfl) (.here 6 rfl),trivial⟩
 refine Qo hI [Ec 0 10 (pI 4),Ec 1 11 (pB true)] [0,1] (.kkkk (.k .z)) ?_ (.kkkk (.kdk .z)) fun a w hI=>?_
 ·exact⟨Qa (.tp 4 rfl) (.here 5 rfl),Qk (v:=.bool (true)) (.tp 5 rfl) (.const _) (fun _=>rfl) (.here 6 rfl),trivial⟩
 refine Zk hI 5 rfl ?_
 refine Qo hI [Ec 0 12 (pI 4),Ec 1 4 (Qs ((Value.slice none 0 0))),Ec 2 5 (pI 4)] [0,1,3] (.kk (.t 1 (.t 2 (.kk .z)))) ?_ (.kkdd (.dddk (.k .z))) fun a w hI=>?_
 ·exact⟨Qa (.tp 4 rfl) (.here 6 rfl),Qc (.const _) (.here 7 rfl),Qc (.tp 6 rfl) (.here 8 rfl),trivial⟩
 refine wp_ret ?_
 refine Xh ?_
 exact K7 hI rfl (.tmp 2 rfl) (.tmp 3 rfl)
theorem c_Product_no2 {A B:List (List Rat)} (hAl:A.length≤1000000) (hBl:B.length≤1000000) (hA:Right A) (hB:¬Right B):∀(M:Nat→Nat→Prop) (w:World) (v0 v1:Value),Mid M w→Box M (fun w=>(Qr Qd A) w v0) w→Box M (fun w=>(Qr Qd B) w v1) w→Calls Tryz.prog 14 #[v0,v1] w (RetB M (Xn (Qs (.slice none 0 0)) (pI 4)) w):=by
 intro M w0 v0 v1 hM hv0 hv1
 refine Q5 (N:=28) Tryz.func14 rfl rfl rfl hM (show EntsA M w0 [v0,v1] [Ez 0 (Qr Qd A),Ez 1 (Qr Qd B)]from⟨⟨rfl,_,rfl,hv0⟩,⟨rfl,_,rfl,hv1⟩,trivial⟩) fun a hI=>?_
 refine Qo hI [Ec 0 4 (Qs ((Value.slice none 0 0))),Ec 1 5 (pI 0)] [0,1] (.kk .z) ?_ (.kkkk .z) fun a w hI=>?_
 ·exact⟨Qc (.const _) (.here 2 rfl),Qc (.const _) (.here 3 rfl),trivial⟩
 refine wp_seq ?_
 refine Qo hI [Ec 0 8 (Qr Qd A),Ec 1 9 (pI 0),Ec 2 6 (pI 0)] [0,1,3] (.kkkk .z) ?_ (.kkkk (.ddk .z)) fun a w hI=>?_
 ·exact⟨Qa (.tp 0 rfl) (.here 4 rfl),Q6 (fun _ _=>by kernel_rfl) (.tp 4 rfl) (.here 5 rfl) (Wn hA),Qc (.tp 5 rfl) (.here 6 rfl),trivial⟩
 refine Qo hI [Ec 0 10 (pI 0),Ec 1 11 (pB false)] [0,1] (.kkkk (.k .z)) ?_ (.kkkk (.kdk .z)) fun a w hI=>?_
 ·exact⟨Qa (.tp 4 rfl) (.here 5 rfl),Qk (v:=.bool (false)) (.tp 5 rfl) (.const _) (fun _=>rfl) (.here 6 rfl),trivial⟩
 refine Yk hI 5 rfl ?_
 refine wp_skip ?_
 refine Qf ?_
 refine wp_seq ?_
 refine Qo hI [Ec 0 13 (Qr Qd B),Ec 1 14 (pI 4),Ec 2 7 (pI 4)] [0,1,3] (.kkkk (.kk .z)) ?_ (.kkkk (.dddd (.k .z))) fun a w hI=>?_
 ·exact⟨Qa (.tp 1 rfl) (.here 6 rfl),Q6 (fun _ _=>by kernel_rfl) (.tp 6 rfl) (.here 7 rfl) (Qbw hBl hB),Qc (.tp 7 rfl) (.here 8 rfl),trivial⟩
 refine Qo hI [Ec 0 15 (pI 4),Ec 1 16 (pB true)] [0,1] (.kkkk (.k .z)) ?_ (.kkkk (.kdk .z)) fun a w hI=>?_
 ·exact⟨Qa (.tp 4 rfl) (.here 5 rfl),Qk (v:=.bool (true)) (.tp 5 rfl) (.const _) (fun _=>rfl) (.here 6 rfl),trivial⟩
 refine Zk hI 5 rfl ?_
 refine Qo hI [Ec 0 17 (pI 4),Ec 1 4 (Qs ((Value.slice none 0 0))),Ec 2 5 (pI 4)] [0,1,3] (.kk (.t 1 (.t 2 (.kk .z)))) ?_ (.kkdd (.dddk (.k .z))) fun a w hI=>?_
 ·exact⟨Qa (.tp 4 rfl) (.here 6 rfl),Qc (.const _) (.here 7 rfl),Qc (.tp 6 rfl) (.here 8 rfl),trivial⟩
 refine wp_ret ?_
 refine Xh ?_
 exact K7 hI rfl (.tmp 2 rfl) (.tmp 3 rfl)
theorem c_Product_no3 {A B:List (List Rat)} (hAl:A.length≤1000000) (hBl:B.length≤1000000) (hA:Right A) (hB:Right B) (hf:B.length≠(A.getD 0 []).length):∀(M:Nat→Nat→Prop) (w:World) (v0 v1:Value),Mid M w→Box M (fun w=>(Qr Qd A) w v0) w→Box M (fun w=>(Qr Qd B) w v1) w→Calls Tryz.prog 14 #[v0,v1] w (RetB M (Xn (Qs (.slice none 0 0)) (pI 4)) w):=by
 intro M w0 v0 v1 hM hv0 hv1
 have h0:=hA.rows
 have h0':=hA.cols
 refine Q5 (N:=28) Tryz.func14 rfl rfl rfl hM (show EntsA M w0 [v0,v1] [Ez 0 (Qr Qd A),Ez 1 (Qr Qd B)]from⟨⟨rfl,_,rfl,hv0⟩,⟨rfl,_,rfl,hv1⟩,trivial⟩) fun a hI=>?_
 refine Qo hI [Ec 0 4 (Qs ((Value.slice none 0 0))),Ec 1 5 (pI 0)] [0,1] (.kk .z) ?_ (.kkkk .z) fun a w hI=>?_
 ·exact⟨Qc (.const _) (.here 2 rfl),Qc (.const _) (.here 3 rfl),trivial⟩
 refine wp_seq ?_
 refine Qo hI [Ec 0 8 (Qr Qd A),Ec 1 9 (pI 0),Ec 2 6 (pI 0)] [0,1,3] (.kkkk .z) ?_ (.kkkk (.ddk .z)) fun a w hI=>?_
 ·exact⟨Qa (.tp 0 rfl) (.here 4 rfl),Q6 (fun _ _=>by kernel_rfl) (.tp 4 rfl) (.here 5 rfl) (Wn hA),Qc (.tp 5 rfl) (.here 6 rfl),trivial⟩
 refine Qo hI [Ec 0 10 (pI 0),Ec 1 11 (pB false)] [0,1] (.kkkk (.k .z)) ?_ (.kkkk (.kdk .z)) fun a w hI=>?_
 ·exact⟨Qa (.tp 4 rfl) (.here 5 rfl),Qk (v:=.bool (false)) (.tp 5 rfl) (.const _) (fun _=>rfl) (.here 6 rfl),trivial⟩
 refine Yk hI 5 rfl ?_
 refine wp_skip ?_
 refine Qf ?_
 refine wp_seq ?_
 refine Qo hI [Ec 0 13 (Qr Qd B),Ec 1 14 (pI 0),Ec 2 7 (pI 0)] [0,1,3] (.kkkk (.kk .z)) ?_ (.kkkk (.dddd (.k .z))) fun a w hI=>?_
 ·exact⟨Qa (.tp 1 rfl) (.here 6 rfl),Q6 (fun _ _=>by kernel_rfl) (.tp 6 rfl) (.here 7 rfl) (Wn hB),Qc (.tp 7 rfl) (.here 8 rfl),trivial⟩
 refine Qo hI [Ec 0 15 (pI 0),Ec 1 16 (pB false)] [0,1] (.kkkk (.k .z)) ?_ (.kkkk (.kdk .z)) fun a w hI=>?_
 ·exact⟨Qa (.tp 4 rfl) (.here 5 rfl),Qk (v:=.bool (false)) (.tp 5 rfl) (.const _) (fun _=>rfl) (.here 6 rfl),trivial⟩
 refine Yk hI 5 rfl ?_
 refine wp_skip ?_
 refine Qf ?_
 refine wp_seq ?_
 refine Qo hI [Ec 0 18 (Qr Qd B),Ec 1 19 (pI (B.length:Int)),Ec 2 20 (Qr Qd A),Ec 3 21 (Ye 1 false (Qd (A.getD 0 []))),Ec 4 22 (Qd (A.getD 0 [])),Ec 5 23 (pI ((A.getD 0 []).length:Int)),Ec 6 24 (pB true)] [0,1,3,7,15,31,63] (.kkkk (.kk .z)) ?_ (.kkkk (.d8 (.k .z))) fun a w hI=>?_
 ·exact⟨Qa (.tp 1 rfl) (.here 6 rfl),Q4 (.tp 6 rfl) (Xb).under (.here 7 rfl),Qa (.tp 0 rfl) (.here 8 rfl),Qw (.tp 8 rfl) (.const _) Xb (.here 9 rfl),Q7 (.tp 9 rfl) X6 ((Y6 _)) (.here 10 rfl),Q4 (.tp 10 rfl) (Xo).under (.here 11 rfl),Qk (v:=.bool (((B.length:Int) != ((A.getD 0 []).length:Int)))) (.tp 7 rfl) (.tp 11 rfl) (fun _=>rfl) (.at_ 12 _ _ rfl (Y7 ((bne_iff_ne.2 (by omega))))),trivial⟩
 refine Zk hI 4 rfl ?_
 refine Qo hI [Ec 0 4 (Qs ((Value.slice none 0 0))),Ec 1 5 (pI 4)] [0,1] (.kk (.t 0 (.t 1 (.k .z)))) ?_ (.kkdd (.dkk .z)) fun a w hI=>?_
 ·exact⟨Qc (.const _) (.here 5 rfl),Qc (.const _) (.here 6 rfl),trivial⟩
 refine wp_ret ?_
 refine Xh ?_
 exact K7 hI rfl (.tmp 2 rfl) (.tmp 3 rfl)
theorem Qgd {A:List (List Rat)} {j:Nat} (hA:Right A) (hb:BdX j A):∀(M:Nat→Nat→Prop) (w:World) (v0:Value),Mid M w→Box M (fun w=>(Qr Qd A) w v0) w→Calls Tryz.prog 16 #[v0] w (RetB M (Xn (Qj 1 false (A.getD 0 []).length (fun i=>Qd ((Xu A).getD i []))) (pI 0)) w):=by
 intro M w0 v0 hM hv0
 have h0:=hA.rows
 have h0':=hA.cols
 refine Q5 (N:=12) Tryz.func16 rfl rfl rfl hM (show EntsA M w0 [v0] [Ez 0 (Qr Qd A)]from⟨⟨rfl,_,rfl,hv0⟩,trivial⟩) fun a hI=>?_
 refine Qo hI [Ec 0 2 (Qs ((Value.slice none 0 0))),Ec 1 3 (pI 0)] [0,1] (.k .z) ?_ (.kkk .z) fun a w hI=>?_
 ·exact⟨Qc (.const _) (.here 1 rfl),Qc (.const _) (.here 2 rfl),trivial⟩
 refine wp_seq ?_
 refine Qo hI [Ec 0 5 (Qr Qd A),Ec 1 6 (pI 0),Ec 2 4 (pI 0)] [0,1,3] (.kkk .z) ?_ (.kkkd (.dk .z)) fun a w hI=>?_
 ·exact⟨Qa (.tp 0 rfl) (.here 3 rfl),Q6 (fun _ _=>by kernel_rfl) (.tp 3 rfl) (.here 4 rfl) (Wn hA),Qc (.tp 4 rfl) (.here 5 rfl),trivial⟩
 refine Qo hI [Ec 0 7 (pI 0),Ec 1 8 (pB false)] [0,1] (.kkkk .z) ?_ (.kkkk (.dk .z)) fun a w hI=>?_
 ·exact⟨Qa (.tp 3 rfl) (.here 4 rfl),Qk (v:=.bool (false)) (.tp 4 rfl) (.const _) (fun _=>rfl) (.here 5 rfl),trivial⟩
 refine Yk hI 4 rfl ?_
 refine wp_skip ?_
 refine Qf ?_
 refine Qo hI [Ec 0 10 (Qr Qd A),Ec 1 11 (Qj 1 false (A.getD 0 []).length (fun i=>Qd ((Xu A).getD i []))),Ec 2 2 (Qj 1 false (A.getD 0 []).length (fun i=>Qd ((Xu A).getD i []))),Ec 3 3 (pI 0)] [0,1,3,7] (.k (.t 2 (.t 3 (.kk .z)))) ?_ (.dddd (.dddk (.k .z))) fun a w hI=>?_
 ·exact⟨Qa (.tp 0 rfl) (.here 5 rfl),Q6 (fun _ _=>by kernel_rfl) (.tp 5 rfl) (.here 6 rfl) (c_turned (j:=j) hA.rows.1 (by omega) (by omega) hA.rect hb),Qc (.tp 6 rfl) (.here 7 rfl),Qc (.const _) (.here 8 rfl),trivial⟩
 refine wp_ret ?_
 exact K7 hI rfl (.tmp 0 rfl) (.tmp 1 rfl)
theorem Qgc {A:List (List Rat)} (hAl:A.length≤1000000) (hA:¬Right A):∀(M:Nat→Nat→Prop) (w:World) (v0:Value),Mid M w→Box M (fun w=>(Qr Qd A) w v0) w→Calls Tryz.prog 16 #[v0] w (RetB M (Xn (Qs (.slice none 0 0)) (pI 4)) w):=by
 intro M w0 v0 hM hv0
 refine Q5 (N:=12) Tryz.func16 rfl rfl rfl hM (show EntsA M w0 [v0] [Ez 0 (Qr Qd A)]from⟨⟨rfl,_,rfl,hv0⟩,trivial⟩) fun a hI=>?_
 refine Qo hI [Ec 0 2 (Qs ((Value.slice none 0 0))),Ec 1 3 (pI 0)] [0,1] (.k .z) ?_ (.kkk .z) fun a w hI=>?_
 ·exact⟨Qc (.const _) (.here 1 rfl),Qc (.const _) (.here 2 rfl),trivial⟩
 refine wp_seq ?_
 refine Qo hI [Ec 0 5 (Qr Qd A),Ec 1 6 (pI 4),Ec 2 4 (pI 4)] [0,1,3] (.kkk .z) ?_ (.kkkd (.dk .z)) fun a w hI=>?_
 ·exact⟨Qa (.tp 0 rfl) (.here 3 rfl),Q6 (fun _ _=>by kernel_rfl) (.tp 3 rfl) (.here 4 rfl) (Qbw hAl hA),Qc (.tp 4 rfl) (.here 5 rfl),trivial⟩
 refine Qo hI [Ec 0 7 (pI 4),Ec 1 8 (pB true)] [0,1] (.kkkk .z) ?_ (.kkkk (.dk .z)) fun a w hI=>?_
 ·exact⟨Qa (.tp 3 rfl) (.here 4 rfl),Qk (v:=.bool (true)) (.tp 4 rfl) (.const _) (fun _=>rfl) (.here 5 rfl),trivial⟩
 refine Zk hI 4 rfl ?_
 refine Qo hI [Ec 0 9 (pI 4),Ec 1 2 (Qs ((Value.slice none 0 0))),Ec 2 3 (pI 4)] [0,1,3] (.k (.t 1 (.t 2 (.kk .z)))) ?_ (.kddd (.ddkk .z)) fun a w hI=>?_
 ·exact⟨Qa (.tp 3 rfl) (.here 5 rfl),Qc (.const _) (.here 6 rfl),Qc (.tp 5 rfl) (.here 7 rfl),trivial⟩
 refine wp_ret ?_
 refine Xh ?_
 exact K7 hI rfl (.tmp 1 rfl) (.tmp 2 rfl)
theorem c_Det_no {A:List (List Rat)} (hAl:A.length≤1000000) (hR:¬SqOk A):∀(M:Nat→Nat→Prop) (w:World) (v0:Value),Mid M w→Box M (fun w=>(Qr Qd A) w v0) w→Calls Tryz.prog 19 #[v0] w (RetB M (Xn (Qq 0) (pI 4)) w):=by
 intro M w0 v0 hM hv0
 refine Q5 (N:=80) Tryz.func19 rfl rfl rfl hM (show EntsA M w0 [v0] [Ez 0 (Qr Qd A)]from⟨⟨rfl,_,rfl,hv0⟩,trivial⟩) fun a hI=>?_
 refine Ql hI [⟨2,2,some 0,none,.ptr,38,3,true,pv (Qq 0),[]⟩] [Ec 1 3 (pI 0)] [0,1] .z (.k .z) ?_ (.k .z) (.kk .z) fun a w hI=>?_
 ·exact⟨Yx 0 rfl rfl (by kernel_rfl) (by kernel_rfl) rfl rfl rfl Jd rfl rfl (by simp[Yu]) rfl (fun w=>Yy w),Qc (.const _) (.here 1 rfl),trivial⟩
 refine wp_seq ?_
 refine Ql hI [] [Ec 0 11 (Qr Qd A),Ec 1 12 (pI 4),Ec 2 4 (pI 4)] [0,1,3] (.k .z) (.kk .z) ?_ (.k .z) (.kkdd (.k .z)) fun a w hI=>?_
 ·exact⟨Qa (.tp 0 rfl) (.here 2 rfl),Q6 (fun _ _=>by kernel_rfl) (.tp 2 rfl) (.here 3 rfl) (c_sq_no hAl hR),Qc (.tp 3 rfl) (.here 4 rfl),trivial⟩
 refine Ql hI [] [Ec 0 13 (pI 4),Ec 1 14 (pB true)] [0,1] (.k .z) (.kkk .z) ?_ (.k .z) (.kkkd (.k .z)) fun a w hI=>?_
 ·exact⟨Qa (.tp 2 rfl) (.here 3 rfl),Qk (v:=.bool (true)) (.tp 3 rfl) (.const _) (fun _=>rfl) (.here 4 rfl),trivial⟩
 refine Zk hI 3 rfl ?_
 refine Ql hI [] [Ec 0 15 (Qq 0),Ec 1 16 (pI 4),Ec 3 3 (pI 4)] [0,1,3,7] (.u none [(2,pv (Qq 0))] .z) (.k (.t 3 (.kk .z))) ?_ (.s .o .z) (.kddd (.ddk .z)) fun a w hI=>?_
 ·exact⟨op_zero Qea (fun w=>Yy w) (.here 4 rfl),Qa (.tp 2 rfl) (.here 5 rfl),X0 0 rfl rfl rfl rfl 0 rfl (by kernel_rfl) (by kernel_rfl) Q8 (.tp 4 rfl) (Yb _),Qc (.tp 5 rfl) (.here 6 rfl),trivial⟩
 refine wp_ret ?_
 refine Xh ?_
 exact K7 hI rfl (.cell 0 rfl rfl rfl rfl Q8 rfl) (.tmp 1 rfl)
theorem Qga {A:List (List Rat)} {b:List Rat} (hAl:A.length≤1000000) (hR:¬SqOk A):∀(M:Nat→Nat→Prop) (w:World) (v0 v1:Value),Mid M w→Box M (fun w=>(Qr Qd A) w v0) w→Box M (fun w=>(Qd b) w v1) w→Calls Tryz.prog 21 #[v0,v1] w (RetB M (Xn (Qq 0) (pI 4)) w):=by
 intro M w0 v0 v1 hM hv0 hv1
 refine Q5 (N:=41) Tryz.func21 rfl rfl rfl hM (show EntsA M w0 [v0,v1] [Ez 0 (Qr Qd A),Ez 1 (Qd b)]from⟨⟨rfl,_,rfl,hv0⟩,⟨rfl,_,rfl,hv1⟩,trivial⟩) fun a hI=>?_
 refine Ql hI [⟨4,4,some 0,none,.ptr,38,3,true,pv (Qq 0),[]⟩] [Ec 1 5 (pI 0)] [0,1] .z (.kk .z) ?_ (.k .z) (.kkk .z) fun a w hI=>?_
 ·exact⟨Yx 0 rfl rfl (by kernel_rfl) (by kernel_rfl) rfl rfl rfl Jd rfl rfl (by simp[Yu]) rfl (fun w=>Yy w),Qc (.const _) (.here 2 rfl),trivial⟩
 refine wp_seq ?_
 refine Ql hI [] [Ec 0 10 (Qr Qd A),Ec 1 11 (pI 4),Ec 2 6 (pI 4)] [0,1,3] (.k .z) (.kkk .z) ?_ (.k .z) (.kkkd (.dk .z)) fun a w hI=>?_
 ·exact⟨Qa (.tp 0 rfl) (.here 3 rfl),Q6 (fun _ _=>by kernel_rfl) (.tp 3 rfl) (.here 4 rfl) (c_sq_no hAl hR),Qc (.tp 4 rfl) (.here 5 rfl),trivial⟩
 refine Ql hI [] [Ec 0 12 (pI 4),Ec 1 13 (pB true)] [0,1] (.k .z) (.kkkk .z) ?_ (.k .z) (.kkkk (.dk .z)) fun a w hI=>?_
 ·exact⟨Qa (.tp 3 rfl) (.here 4 rfl),Qk (v:=.bool (true)) (.tp 4 rfl) (.const _) (fun _=>rfl) (.here 5 rfl),trivial⟩
 refine Zk hI 4 rfl ?_
 refine Ql hI [] [Ec 0 14 (Qq 0),Ec 1 15 (pI 4),Ec 3 5 (pI 4)] [0,1,3,7] (.u none [(2,pv (Qq 0))] .z) (.kk (.t 3 (.kk .z))) ?_ (.s .o .z) (.kkdd (.dddk .z)) fun a w hI=>?_
 ·exact⟨op_zero Qea (fun w=>Yy w) (.here 5 rfl),Qa (.tp 3 rfl) (.here 6 rfl),X0 0 rfl rfl rfl rfl 0 rfl (by kernel_rfl) (by kernel_rfl) Q8 (.tp 5 rfl) (Yb _),Qc (.tp 6 rfl) (.here 7 rfl),trivial⟩
 refine wp_ret ?_
 refine Xh ?_
 exact K7 hI rfl (.cell 0 rfl rfl rfl rfl Q8 rfl) (.tmp 2 rfl)
theorem Qgb {A:List (List Rat)} {b:List Rat} (hR:SqOk A) (hbl:b.length≠A.length):∀(M:Nat→Nat→Prop) (w:World) (v0 v1:Value),Mid M w→Box M (fun w=>(Qr Qd A) w v0) w→Box M (fun w=>(Qd b) w v1) w→Calls Tryz.prog 21 #[v0,v1] w (RetB M (Xn (Qq 0) (pI 4)) w):=by
 intro M w0 v0 v1 hM hv0 hv1
 have h0:=hR.1.rows
 refine Q5 (N:=41) Tryz.func21 rfl rfl rfl hM (show EntsA M w0 [v0,v1] [Ez 0 (Qr Qd A),Ez 1 (Qd b)]from⟨⟨rfl,_,rfl,hv0⟩,⟨rfl,_,rfl,hv1⟩,trivial⟩) fun a hI=>?_
 refine Ql hI [⟨4,4,some 0,none,.ptr,38,3,true,pv (Qq 0),[]⟩] [Ec 1 5 (pI 0)] [0,1] .z (.kk .z) ?_ (.k .z) (.kkk .z) fun a w hI=>?_
 ·exact⟨Yx 0 rfl rfl (by kernel_rfl) (by kernel_rfl) rfl rfl rfl Jd rfl rfl (by simp[Yu]) rfl (fun w=>Yy w),Qc (.const _) (.here 2 rfl),trivial⟩
 refine wp_seq ?_
 refine Ql hI [] [Ec 0 10 (Qr Qd A),Ec 1 11 (pI 0),Ec 2 6 (pI 0)] [0,1,3] (.k .z) (.kkk .z) ?_ (.k .z) (.kkkd (.dk .z)) fun a w hI=>?_
 ·exact⟨Qa (.tp 0 rfl) (.here 3 rfl),Q6 (fun _ _=>by kernel_rfl) (.tp 3 rfl) (.here 4 rfl) (Qdt hR.1 hR.2.symm),Qc (.tp 4 rfl) (.here 5 rfl),trivial⟩
 refine Ql hI [] [Ec 0 12 (pI 0),Ec 1 13 (pB false)] [0,1] (.k .z) (.kkkk .z) ?_ (.k .z) (.kkkk (.dk .z)) fun a w hI=>?_
 ·exact⟨Qa (.tp 3 rfl) (.here 4 rfl),Qk (v:=.bool (false)) (.tp 4 rfl) (.const _) (fun _=>rfl) (.here 5 rfl),trivial⟩
 refine Yk hI 4 rfl ?_
 refine wp_skip ?_
 refine Qf ?_
 refine wp_seq ?_
 refine Ql hI [] [Ec 0 16 (Qd b),Ec 1 17 (pI (b.length:Int)),Ec 2 18 (Qr Qd A),Ec 3 19 (pI (A.length:Int)),Ec 4 20 (pB true)] [0,1,3,7,15] (.k .z) (.kkkk (.k .z)) ?_ (.k .z) (.kkkd (.dddd (.dk .z))) fun a w hI=>?_
 ·exact⟨Qa (.tp 1 rfl) (.here 5 rfl),Q4 (.tp 5 rfl) (Xo).under (.here 6 rfl),Qa (.tp 0 rfl) (.here 7 rfl),Q4 (.tp 7 rfl) (Xb).under (.here 8 rfl),Qk (v:=.bool (((b.length:Int) != (A.length:Int)))) (.tp 6 rfl) (.tp 8 rfl) (fun _=>rfl) (.at_ 9 _ _ rfl (Y7 ((bne_iff_ne.2 (by omega))))),trivial⟩
 refine Zk hI 3 rfl ?_
 refine Ql hI [] [Ec 0 21 (Qq 0),Ec 2 5 (pI 4)] [0,1,3] (.u none [(1,pv (Qq 0))] .z) (.kk (.t 2 (.k .z))) ?_ (.s .o .z) (.kkdd (.dk .z)) fun a w hI=>?_
 ·exact⟨op_zero Qea (fun w=>Yy w) (.here 4 rfl),X0 0 rfl rfl rfl rfl 0 rfl (by kernel_rfl) (by kernel_rfl) Q8 (.tp 4 rfl) (Yb _),Qc (.const _) (.here 5 rfl),trivial⟩
 refine wp_ret ?_
 refine Xh ?_
 exact K7 hI rfl (.cell 0 rfl rfl rfl rfl Q8 rfl) (.tmp 2 rfl)
theorem c_Quadratic_ok {A:List (List Rat)} {x:List Rat} {j jx:Nat} (hR:SqOk A) (hxl:x.length=A.length) (hb:BdX j A) (hx:∀k,BdR jx (x.getD k 0)) (hq:K6 (j+jx) A.length≤100000000∧jx+K6 (j+jx) A.length≤100000000∧∀k,k<A.length→(1+k*(A.length*(jx+(j+jx)+1)))+(jx+K6 (j+jx) A.length)+(1+k*(A.length*(jx+(j+jx)+1)))+(jx+K6 (j+jx) A.length)+1≤100000000):∀(M:Nat→Nat→Prop) (w:World) (v0 v1:Value),Mid M w→Box M (fun w=>(Qr Qd A) w v0) w→Box M (fun w=>(Qd x) w v1) w→Calls Tryz.prog 21 #[v0,v1] w (RetB M (Xn (Qq (qSum A x A.length A.length)) (pI 0)) w):=by
 intro M w0 v0 v1 hM hv0 hv1
 have h0:=hR.1.rows
 have hr:=hR.rect
 refine Q5 (N:=41) Tryz.func21 rfl rfl rfl hM (show EntsA M w0 [v0,v1] [Ez 0 (Qr Qd A),Ez 1 (Qd x)]from⟨⟨rfl,_,rfl,hv0⟩,⟨rfl,_,rfl,hv1⟩,trivial⟩) fun a hI=>?_
 refine Ql hI [⟨4,4,some 0,none,.ptr,38,3,true,pv (Qq 0),[]⟩] [Ec 1 5 (pI 0)] [0,1] .z (.kk .z) ?_ (.k .z) (.kkk .z) fun a w hI=>?_
 ·exact⟨Yx 0 rfl rfl (by kernel_rfl) (by kernel_rfl) rfl rfl rfl Jd rfl rfl (by simp[Yu]) rfl (fun w=>Yy w),Qc (.const _) (.here 2 rfl),trivial⟩
 refine wp_seq ?_
 refine Ql hI [] [Ec 0 10 (Qr Qd A),Ec 1 11 (pI 0),Ec 2 6 (pI 0)] [0,1,3] (.k .z) (.kkk .z) ?_ (.k .z) (.kkkd (.dk .z)) fun a w hI=>?_
 ·exact⟨Qa (.tp 0 rfl) (.here 3 rfl),Q6 (fun _ _=>by kernel_rfl) (.tp 3 rfl) (.here 4 rfl) (Qdt hR.1 hR.2.symm),Qc (.tp 4 rfl) (.here 5 rfl),trivial⟩
 refine Ql hI [] [Ec 0 12 (pI 0),Ec 1 13 (pB false)] [0,1] (.k .z) (.kkkk .z) ?_ (.k .z) (.kkkk (.dk .z)) fun a w hI=>?_
 ·exact⟨Qa (.tp 3 rfl) (.here 4 rfl),Qk (v:=.bool (false)) (.tp 4 rfl) (.const _) (fun _=>rfl) (.here 5 rfl),trivial⟩
 refine Yk hI 4 rfl ?_
 refine wp_skip ?_
 refine Qf ?_
 refine wp_seq ?_
 refine Ql hI [] [Ec 0 16 (Qd x),Ec 1 17 (pI (x.length:Int)),Ec 2 18 (Qr Qd A),Ec 3 19 (pI (A.length:Int)),Ec 4 20 (pB false)] [0,1,3,7,15] (.k .z) (.kkkk (.k .z)) ?_ (.k .z) (.kkkd (.dddd (.dk .z))) fun a w hI=>?_
 ·exact⟨Qa (.tp 1 rfl) (.here 5 rfl),Q4 (.tp 5 rfl) (Xo).under (.here 6 rfl),Qa (.tp 0 rfl) (.here 7 rfl),Q4 (.tp 7 rfl) (Xb).under (.here 8 rfl),Qk (v:=.bool (((x.length:Int) != (A.length:Int)))) (.tp 6 rfl) (.tp 8 rfl) (fun _=>rfl) (.at_ 9 _ _ rfl (Y7 ((by rw[hxl]; exact bne_self_eq_false _)))),trivial⟩
 refine Yk hI 3 rfl ?_
 refine wp_skip ?_
 refine Qf ?_
 refine Ql hI [⟨7,7,some 0,none,.ptr,38,3,true,pv (Qq 0),[]⟩] [] [0] (.k .z) (.kkkk .z) ?_ (.k (.k .z)) (.kkkd .z) fun a w hI=>?_
 ·exact⟨Yx 1 rfl rfl (by kernel_rfl) (by kernel_rfl) rfl rfl rfl Jd rfl rfl (by simp[Yu]) rfl (fun w=>Yy w),trivial⟩
 refine wp_seq ?_
 refine Ql hI [] [Ec 0 22 (Qr Qd A),Ec 1 23 (pI (A.length:Int)),Ec 2 24 (pI 0)] [0,1,3] (.k (.k .z)) (.kkk .z) ?_ (.k (.k .z)) (.dkkk (.kk .z)) fun a w hI=>?_
 ·exact⟨Qa (.tp 0 rfl) (.here 3 rfl),Q4 (.tp 3 rfl) (Xb).under (.here 4 rfl),Qa (.const _) (.here 5 rfl),trivial⟩
 refine wp_block ?_
 refine Xz (fun(k:Nat) a w=>(k≤A.length)∧Inv ⟨41,w0,M,fun _=>False⟩ [⟨4,4,none,none,.ptr,38,3,true,pv (Qq 0),[]⟩,⟨7,7,none,none,.ptr,38,3,true,pv (Qq (qSum A x A.length k)),[]⟩] [] [Ez 1 (Qd x),Ez 5 (pI 0),Ez 22 (Qr Qd A),Ez 23 (pI (A.length:Int)),Ez 24 (pI (k:Int))] Qi a w) (fun(k:Nat)=>A.length-k) (0) ⟨Nat.zero_le _,(hI.conv ⟨⟨0,_,_,rfl,⟨rfl,rfl,rfl⟩,rfl,fun _=>fun _ _ h=>h⟩,⟨1,_,_,rfl,⟨rfl,rfl,rfl⟩,rfl,fun _=>(fun _ _ q=>q)⟩,trivial⟩ ⟨Qp 0 rfl,Qp 1 rfl,Qp 2 rfl,Qp 3 rfl,⟨rfl,rfl,4,_,rfl,(Xc (by omega))⟩,trivial⟩)⟩ ?_
 intro k a w hIk
 obtain⟨hp,hI⟩:=hIk
 refine Ql hI [] [Ec 0 25 (pB (decide ((k:Int)<(A.length:Int))))] [0] (.k (.k .z)) (.kkkk (.k .z)) ?_ (.k (.k .z)) (.kkkk (.kk .z)) fun a w hI=>?_
 ·exact⟨Qk (v:=.bool (decide ((k:Int)<(A.length:Int)))) (.tp 4 rfl) (.tp 3 rfl) (fun _=>rfl) (.here 5 rfl),trivial⟩
 refine wp_seq ?_
 refine Xm hI 5 rfl (fun ht=>?_) (fun ht=>?_)
 ·have t1:=of_decide_eq_true ht
  refine wp_skip ?_
  refine Qf ?_
  refine wp_seq ?_
  refine wp_block ?_
  refine Ql hI [] [Ec 0 26 (pI (k:Int)),Ec 1 27 (Ye 1 false (Qd (A.getD k []))),Ec 2 28 (Qd (A.getD k [])),Ec 3 8 (pI (k:Int)),Ec 4 9 (Qd (A.getD k []))] [0,1,3,7,15] (.k (.k .z)) (.kkkk (.kk .z)) ?_ (.k (.k .z)) (.kkkk (.kddd (.dkk .z))) fun a w hI=>?_
  ·exact⟨Qa (.tp 4 rfl) (.here 6 rfl),Qw (.tp 2 rfl) (.tp 4 rfl) Xb (.at_ 7 _ _ rfl (by rw[Int.toNat_natCast]; exact fun _ _ h=>h)),Q7 (.tp 7 rfl) X6 ((Y6 _)) (.here 8 rfl),Qc (.tp 6 rfl) (.here 9 rfl),Qc (.tp 8 rfl) (.here 10 rfl),trivial⟩
  have hrk:=hr k (by omega)
  refine Qc6 hI [] [Ec 0 29 (Qq (qSum A x A.length k)),Ec 1 30 (Qd x),Ec 2 31 (pI (k:Int)),Ec 3 32 (Ye 3 true (Qq (x.getD k 0))),Ec 4 33 (Qq (x.getD k 0)),Ec 5 34 (Qd (A.getD k [])),Ec 6 35 (Qd x),Ec 7 36 (Qq (Jy (A.getD k []) x A.length)),Ec 8 37 (Qq ((x.getD k 0)*(Jy (A.getD k []) x A.length))),Ec 9 38 (Qq ((qSum A x A.length k)+((x.getD k 0)*(Jy (A.getD k []) x A.length))))] [0,0,0,6,14,0,0,96,254,511,1023] (.k (.u none [(10,pv (Qq ((qSum A x A.length k)+((x.getD k 0)*(Jy (A.getD k []) x A.length)))))] .z)) (.kkkk (.kkk .z)) ?_ (.k (.s .o .z)) (.kkkk (.kddd (.d8 (.d .z)))) fun a w hI=>?_
  ·exact⟨Xp 1 rfl rfl rfl rfl (by kernel_rfl) Q8 rfl (.here 7 rfl),Qa (.tp 0 rfl) (.here 8 rfl),Qa (.tp 5 rfl) (.here 9 rfl),Qw (.tp 8 rfl) (.tp 9 rfl) Xo (.at_ 10 _ _ rfl (by rw[Int.toNat_natCast]; exact fun _ _ h=>h)),Q7 (.tp 10 rfl) Q8 (Yb _) (.here 11 rfl),Qa (.tp 6 rfl) (.here 12 rfl),Qa (.tp 0 rfl) (.here 13 rfl),Kk (fun _ _=>by kernel_rfl) (.tp 12 rfl) (.tp 13 rfl) (.here 14 rfl) ((by have h:=c_inner (L1:=A.getD k []) (L2:=x) (j1:=j) (j2:=jx) (by omega) (by omega) (by omega) (by omega) (hb k) hx (by rw[hrk]; exact hq.1); rw[hrk]at h; exact h)),Yi (fun _ _=>by kernel_rfl) (Y5 _) (.tp 11 rfl) (.tp 14 rfl) (.here 15 rfl) (c_mul (hx k) (bd_dot (hb k) hx A.length) hq.2.1),Yi (fun _ _=>by kernel_rfl) (Y5 _) (.tp 7 rfl) (.tp 15 rfl) (.here 16 rfl) (c_add (bd_qSum hb hx k) ((hx k).mul (bd_dot (hb k) hx A.length)) (hq.2.2 k (by omega))),X0 1 rfl rfl rfl rfl 0 rfl (by kernel_rfl) (by kernel_rfl) Q8 (.tp 16 rfl) (Yb _),trivial⟩
  refine Yf ?_
  refine Qf ?_
  refine Y4 hI [] [Ec 0 39 (pI ((k:Int)+(1:Int))),Ec 1 24 (pI ((k:Int)+(1:Int)))] [0,1] (.k (.k .z)) (.kkkk (.t 1 .z)) ?_ (.k (.k .z)) (.kkkk (.ddk .z)) fun a w hI=>?_
  ·exact⟨Qk (v:=.int .i64 (IntKind.i64.wrap ((k:Int)+(1:Int)))) (.tp 4 rfl) (.const _) (fun _=>rfl) (.at_ 5 _ _ rfl (X8 (by omega))),Qa (.tp 5 rfl) (.here 6 rfl),trivial⟩
  refine Qf ?_
  exact⟨k+1,⟨(show k+1≤A.length by omega),(hI.conv ⟨⟨0,_,_,rfl,⟨rfl,rfl,rfl⟩,rfl,fun _=>fun _ _ h=>h⟩,⟨1,_,_,rfl,⟨rfl,rfl,rfl⟩,rfl,fun _=>(fun _ _ q=>q)⟩,trivial⟩ ⟨Qp 0 rfl,Qp 1 rfl,Qp 2 rfl,Qp 3 rfl,⟨rfl,rfl,4,_,rfl,(Xc (by omega))⟩,trivial⟩)⟩,(show A.length-(k+1)<A.length-k by omega)⟩
 ·have t2:=of_decide_eq_false ht
  refine wp_exit ?_
  refine Qy ?_
  refine Qy ?_
  refine Xv ?_
  refine Qf ?_
  refine Ql hI [] [Ec 0 40 (Qq (qSum A x A.length k)),Ec 2 5 (pI 0)] [0,1,3] (.u none [(1,pv (Qq (qSum A x A.length k)))] (.k .z)) (.k (.t 2 (.kkkk .z))) ?_ (.s .o (.k .z)) (.dddd (.dddk .z)) fun a w hI=>?_
  ·exact⟨Xp 1 rfl rfl rfl rfl (by kernel_rfl) Q8 rfl (.here 6 rfl),X0 0 rfl rfl rfl rfl 0 rfl (by kernel_rfl) (by kernel_rfl) Q8 (.tp 6 rfl) (Yb _),Qc (.const _) (.here 7 rfl),trivial⟩
  refine wp_ret ?_
  exact K7 hI rfl (.imp (.cell 0 rfl rfl rfl rfl Q8 rfl) (fun w v h=>by rw[show k=A.length by omega]at h; exact h)) (.tmp 0 rfl)
end Wx
