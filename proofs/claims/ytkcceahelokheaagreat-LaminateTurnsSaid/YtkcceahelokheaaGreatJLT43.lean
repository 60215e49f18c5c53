import Derived.Test.YtkcceahelokheaaGreatCLTSolved
namespace Wx
attribute [local irreducible] OpOk
set_option maxRecDepth 100000
open Go Go.RowKit Go.Proofs
set_option linter.unusedVariables false
theorem EC {b:List Rat} {j:Nat} (hm:b.length<=1000000) (hb:∀k,aZ j (b.getD k 0)):∀(M:Nat->Nat->Prop) (w:World) (v0:Value),cL M w->aO M (λw=>(aD b) w v0) w->Calls Tryz.prog 162 #[v0] w (bH M (aA 1 false b.length λi=>aD ((uh b).getD i [])) w):=by
 intro M w0 v0 hM hv0
 refine dr (N:=19) Tryz.func162 rfl rfl rfl hM (show cF M w0 [v0] [⟨none,none,0,aD b⟩]from⟨⟨rfl,_,rfl,hv0⟩,trivial⟩) λa hI=>?_
 refine dU hI 1 [Uc 0 2 _] (.k .z) ⟨mv,trivial⟩ (.kk .z) λa w hI=>?_
 refine lA hI 1 [⟨3,3,some 0,none,(.grow 0 1),153,0,false,pv cY,[]⟩] [] [Uc 0 3 (aA 1 false 0 (λi=>aD [b.getD i 0]))] .z (.kk .z) ⟨DG 0 rfl rfl rfl (by kernel_rfl) (.here 2 rfl),trivial⟩ (.k .z) (.bS .z) λa w hI=>?_
 refine wp_seq ?_
 refine lA hI 3 [] [] [Uc 0 6 _,Uc 1 7 (pI (b.length:Int)),Uc 2 8 _] (.k .z) (.bS .z) ⟨mv,fl (.tmp 3 rfl rfl) (bF).under (.here 4 rfl),mv,trivial⟩ (.k .z) (.mw (.kk .z)) λa w hI=>?_
 refine wp_block ?_
 refine dL (λ(k:Nat) a w=>(k<=b.length)/\Inv ⟨19,w0,M,λ_=>False⟩ [⟨3,3,none,none,(.grow k 1),153,0,false,pv cY,[]⟩] [] [⟨none,none,2,bg ((Value.slice none 0 0))⟩,⟨none,none,3,aA 1 false k (λi=>aD [b.getD i 0])⟩,⟨none,none,6,aD b⟩,⟨none,none,7,pI (b.length:Int)⟩,⟨none,none,8,pI (k:Int)⟩] none_ a w) (λ(k:Nat)=>b.length-k) (0) ⟨Nat.zero_le _,(hI.conv ⟨⟨0,_,_,rfl,⟨rfl,rfl,rfl⟩,rfl,λ_=>λ_ _ h=>h⟩,trivial⟩ ⟨⟨rfl,rfl,0,_,rfl,λ_ _ h=>h⟩,⟨rfl,rfl,1,_,rfl,λ_ _ h=>h⟩,⟨rfl,rfl,2,_,rfl,λ_ _ h=>h⟩,⟨rfl,rfl,3,_,rfl,λ_ _ h=>h⟩,⟨rfl,rfl,4,_,rfl,(bk (by omega))⟩,trivial⟩)⟩ ?_
 intro k a w zo
 obtain⟨hp,hI⟩:=zo
 refine lA hI 1 [] [] [Uc 0 9 _] (.k .z) (.ah (.k .z)) ⟨bl,trivial⟩ (.k .z) (.ah (.kk .z)) λa w hI=>?_
 refine wp_seq ?_
 refine dD hI 5 rfl (λht=>?_) (λht=>?_)
 ·have t1:=of_decide_eq_true ht
  refine wp_skip ?_
  refine ae ?_
  refine wp_seq ?_
  refine wp_block ?_
  refine lA hI 4 [⟨5,5,some 2,none,.ptr,40,3,true,pv (au 0),[(3,pv (au (b.getD k 0)))]⟩] [] [Uc 0 10 _,Uc 1 11 (au (b.getD k 0))] (.k .z) (.ah (.kk .z)) ⟨Xi bF,dQ (.tmp 6 rfl rfl) bY (cV _) (.here 7 rfl),kZ 1 rfl rfl (by kernel_rfl) (by kernel_rfl) rfl rfl rfl pc rfl rfl (by simp[iw]) rfl (λw=>ew w),mJ 1 rfl rfl rfl rfl 0 rfl (by kernel_rfl) (by kernel_rfl) bY (.tmp 7 rfl rfl) (cV _),trivial⟩ (.k (.s .o .z)) (.ah (.dx .z)) λa w hI=>?_
  refine DW hI [⟨12,12,some 0,some 4,(.grow k 1),153,0,false,pv cY,[]⟩,⟨16,16,some 4,none,(.grow (k+1) 1),153,0,false,pv cY,[]⟩] [] [⟨some 0,none,12,aA 1 false k (λi=>aD [b.getD i 0])⟩,⟨some 1,none,13,au (b.getD k 0)⟩,⟨some 2,none,14,aD ([b.getD k 0])⟩,⟨some 3,none,15,aA 1 false 1 (λ_=>aD ([b.getD k 0]))⟩,⟨some 4,none,16,aA 1 false (k+1) (λi=>aD [b.getD i 0])⟩] (.u (some 0) [] (.k .z)) (.ah (.k .z)) rfl [0,1,3,7,15,31] 5 (by kernel_rfl) ?_ (.d (.k (.d (.k .z)))) (.oM (.dx (.dk .z))) (λa w hI=>hI) (⟨_,λa w hI=>ru hI [⟨3,3,some 0,none,(.grow (k+1) 1),153,0,false,pv cY,[]⟩] [⟨some 0,none,3,aA 1 false (k+1) (λi=>aD [b.getD i 0])⟩] (.k (.u (some 0) [] .z)) (.ah (.k .z)) (by kernel_rfl) (jb 1 rfl rfl (by kernel_rfl) rfl rfl 2 rfl rfl rfl rfl (by kernel_rfl) (.tmp 4 rfl rfl) (.here 5 rfl)) (.k (.d (.k .z))) (.ah (.dk .z)),
    rfl⟩) ?_
  ·exact⟨q8 0 rfl rfl (by kernel_rfl) rfl rfl 2 rfl rfl rfl rfl (by kernel_rfl) (.tmp 1 rfl rfl) (.here 5 rfl),eW 1 rfl rfl rfl rfl (by kernel_rfl) bY rfl (.here 6 rfl),iF (fs:=List.replicate 1 ⟨true,3,au 0⟩) (ps:=[(0,au (b.getD k 0))]) (gs:=[b.getD k 0].map λq=>⟨true,3,au q⟩) bF pc rfl rfl rfl (λw=>ew w) rfl (show dy _ _ _ _ _ _ from⟨⟨rfl,(.tmp 6 rfl rfl),_,rfl,cV _⟩,trivial⟩) rfl (λi=>au ([b.getD k 0].getD i 0)) (KP _) (.here 7 rfl),gJ (agg:=false) aX CA rfl rfl (by decide) (.tmp 7 rfl rfl) (dF _) (.here 8 rfl),rR 2 rfl rfl (by kernel_rfl) rfl rfl 3 rfl rfl rfl rfl rfl (by kernel_rfl) (by kernel_rfl) (.tmp 5 rfl rfl) (.tmp 8 rfl rfl) Ex (λ_=>rfl) (λi _=>dF _) (λi _=>dF _) (by omega) (.at_ 9 _ _ rfl (MU (f':=λi=>aD [b.getD i 0]) (f:=λi=>aD [b.getD i 0]) (λ_ _ _ _ h=>h) (λ_ _ h=>h))),trivial⟩
  ·intro a w hI
   refine aG ?_
   refine ae ?_
   refine Qq hI 2 [] [] [Uc 0 17 _,Uc 1 8 _] (.k (.k .z)) (.bS (.t 1 (.k .z))) ⟨bl,mv,trivial⟩ (.k (.k .z)) (.cA (.L8 .z)) λa w hI=>?_
   refine ae ?_
   exact⟨k+1,⟨(show k+1<=b.length by omega),(hI.conv ⟨⟨1,_,_,rfl,⟨rfl,rfl,rfl⟩,rfl,λ_=>λ_ _ h=>h⟩,trivial⟩ ⟨⟨rfl,rfl,0,_,rfl,λ_ _ h=>h⟩,⟨rfl,rfl,3,_,rfl,λ_ _ h=>h⟩,⟨rfl,rfl,1,_,rfl,λ_ _ h=>h⟩,⟨rfl,rfl,2,_,rfl,λ_ _ h=>h⟩,⟨rfl,rfl,4,_,rfl,(bk (by omega))⟩,trivial⟩)⟩,(show b.length-(k+1)<b.length-k by omega)⟩
 ·have t2:=of_decide_eq_false ht
  refine wp_exit ?_
  refine ak ?_
  refine ak ?_
  refine aH ?_
  refine ae ?_
  refine lA hI 2 [⟨18,18,some 0,some 1,(.grow k 1),153,0,false,pv cY,[]⟩,⟨2,2,some 1,none,(.grow k 1),153,0,false,pv cY,[]⟩] [] [Uc 0 18 (aA 1 false k (λi=>aD [b.getD i 0])),Uc 1 2 (aA 1 false k (λi=>aD [b.getD i 0]))] (.u (some 0) [] .z) (.t 1 (.ah (.k .z))) ⟨q8 0 rfl rfl (by kernel_rfl) rfl rfl 1 rfl rfl rfl rfl (by kernel_rfl) (.tmp 1 rfl rfl) (.here 6 rfl),jb 1 rfl rfl (by kernel_rfl) rfl rfl 2 rfl rfl rfl rfl (by kernel_rfl) (.tmp 6 rfl rfl) (.here 7 rfl),trivial⟩ (.d (.d (.k .z))) (.bh (.dw .z)) λa w hI=>?_
  refine wp_ret ?_
  exact ck hI rfl (.imp (.tmp 0 rfl) (Co (by omega) λi hi w v h=>by rw[yV (by omega)]; exact h))
end Wx

namespace Wx
attribute [local irreducible] OpOk
set_option maxRecDepth 100000
open Go Go.RowKit Go.Proofs
set_option linter.unusedVariables false
variable {A B:List (List Rat)} {m j:Nat}
theorem EG (h0:0<A.length) (hn:A.length<=100000) (hm:0<m/\m<=100000) (hA:gE A.length A) (hBl:B.length=A.length) (Nv:∀i,i<A.length->(B.getD i []).length=m) (Kc:qu j A) (Yl:qu j B) (h1:1<=j) (hj:uv j A.length<=100000000) (LW:¬zm (mW A B) A.length):∀(M:Nat->Nat->Prop) (w:World) (v0 v1:Value),cL M w->aO M (λw=>(aA 1 false A.length (λi=>aD (A.getD i []))) w v0) w->aO M (λw=>(aA 1 false A.length (λi=>aD (B.getD i []))) w v1) w->Calls Tryz.prog 161 #[v0,v1] w (bH M (cN (aA 1 false A.length (λi=>aD ((tI A B).getD i []))) (pB true)) w):=λM w v0 v1 hM h2 h3=>
 (EE h0 hn hm hA hBl Nv Kc Yl h1 hj M w v0 v1 hM h2 h3).mono λ_ _ h=>rU h λ_ _ h=>h.1 LW
theorem EF (h0:0<A.length) (hn:A.length<=100000) (hm:0<m/\m<=100000) (hA:gE A.length A) (hBl:B.length=A.length) (Nv:∀i,i<A.length->(B.getD i []).length=m) (Kc:qu j A) (Yl:qu j B) (h1:1<=j) (hj:uv j A.length<=100000000) (LW:zm (mW A B) A.length):∀(M:Nat->Nat->Prop) (w:World) (v0 v1:Value),cL M w->aO M (λw=>(aA 1 false A.length (λi=>aD (A.getD i []))) w v0) w->aO M (λw=>(aA 1 false A.length (λi=>aD (B.getD i []))) w v1) w->Calls Tryz.prog 161 #[v0,v1] w (bH M (cN (bg (.slice none 0 0)) (pB false)) w):=λM w v0 v1 hM h2 h3=>
 (EE h0 hn hm hA hBl Nv Kc Yl h1 hj M w v0 v1 hM h2 h3).mono λ_ _ h=>rU h λ_ _ h=>h.2 LW
variable {b:List Rat}
theorem G7 (h0:0<A.length) (hn:A.length<=100000) (hA:gE A.length A) (hbl:b.length=A.length) (Kc:qu j A) (hb:∀k,aZ j (b.getD k 0)) (h1:1<=j) (hj:uv j A.length<=100000000) (LW:¬tY A b):∀(M:Nat->Nat->Prop) (w:World) (v0 v1:Value),cL M w->aO M (λw=>(aA 1 false A.length (λi=>aD (A.getD i []))) w v0) w->aO M (λw=>(aD b) w v1) w->Calls Tryz.prog 114 #[v0,v1] w (bH M (cN (aD (xQ A b)) (pI 0)) w):=by
 intro M w0 v0 v1 hM hv0 eI
 have hr:gE 1 (tI A (uh b)):=M6 hA (λi hi=>vU (by omega))
 refine dr (N:=21) Tryz.func114 rfl rfl rfl hM (show cF M w0 [v0,v1] [⟨none,none,0,aA 1 false A.length (λi=>aD (A.getD i []))⟩,⟨none,none,1,aD b⟩]from⟨⟨rfl,_,rfl,hv0⟩,⟨rfl,_,rfl,eI⟩,trivial⟩) λa hI=>?_
 refine dU hI 2 [Uc 0 4 _,Uc 1 5 _] (.kk .z) ⟨mv,mv,trivial⟩ (.ah .z) λa w hI=>?_
 refine dU hI 9 [Uc 0 9 _,Uc 1 10 _,Uc 2 11 _,Uc 3 12 _,Uc 4 8 _,Uc 5 13 _,Uc 6 14 _,Uc 7 6 _,Uc 8 7 _] (.ah .z) ⟨mv,mv,WT ((by have h:=EC (b:=b) (by omega) hb; rw[hbl]at h; exact h)) (look rfl),XL (EG h0 hn (m:=1) (j:=j) (by omega) hA (by rw[yX]; exact hbl) (λi hi=>vU (by omega)) Kc (C3 hb h1) h1 hj LW) (look rfl) (look rfl),mv,ext,ext,mv,mv,trivial⟩ (.xI (.bh (.dw (.k .z)))) λa w hI=>?_
 refine wp_seq ?_
 refine dU hI 2 [Uc 0 15 _,Uc 1 16 _] (.ah .z) ⟨mv,nt,trivial⟩ (.cA (.dk .z)) λa w hI=>?_
 refine kM hI 3 rfl ?_
 refine wp_skip ?_
 refine ae ?_
 refine dU hI 6 [Uc 0 17 _,Uc 1 18 _,Uc 2 19 _,Uc 3 20 (aD ((Cx (tI A (uh b))).getD 0 [])),Uc 4 4 _,Uc 5 5 _] (.t 4 (.t 5 (.kk .z))) ⟨mv,WT ((by have h:=Ob (A:=tI A (uh b)) (j:=uv j A.length) (by rw[iI]; exact h0) (by rw[iI]; omega) (by rw[hr 0 (by rw[iI]; exact h0)]; omega) (λi hi=>by rw[hr i hi,hr 0 (by rw[iI]; exact h0)]) (S4 Kc (C3 hb h1) h1); rw[iI,hr 0 (by rw[iI]; exact h0)]at h; exact h)) (look rfl),Zo aX,dQ (.tmp 6 rfl rfl) bw ((dF _)) (.here 7 rfl),mv,mv,trivial⟩ (.d8 (.kk .z)) λa w hI=>?_
 refine wp_ret ?_
 exact jZ hI rfl (.imp (.tmp 0 rfl) (λw v h=>by have e:=Nj (A:=tI A (uh b)) (k:=0) (by rw[hr 0 (by rw[iI]; exact h0)]; omega); rw[e]at h; exact h)) (.tmp 1 rfl)
theorem G6 (h0:0<A.length) (hn:A.length<=100000) (hA:gE A.length A) (hbl:b.length=A.length) (Kc:qu j A) (hb:∀k,aZ j (b.getD k 0)) (h1:1<=j) (hj:uv j A.length<=100000000) (LW:tY A b):∀(M:Nat->Nat->Prop) (w:World) (v0 v1:Value),cL M w->aO M (λw=>(aA 1 false A.length (λi=>aD (A.getD i []))) w v0) w->aO M (λw=>(aD b) w v1) w->Calls Tryz.prog 114 #[v0,v1] w (bH M (cN (bg (.slice none 0 0)) (pI 6)) w):=by
 intro M w0 v0 v1 hM hv0 eI
 refine dr (N:=21) Tryz.func114 rfl rfl rfl hM (show cF M w0 [v0,v1] [⟨none,none,0,aA 1 false A.length (λi=>aD (A.getD i []))⟩,⟨none,none,1,aD b⟩]from⟨⟨rfl,_,rfl,hv0⟩,⟨rfl,_,rfl,eI⟩,trivial⟩) λa hI=>?_
 refine dU hI 2 [Uc 0 4 _,Uc 1 5 _] (.kk .z) ⟨mv,mv,trivial⟩ (.ah .z) λa w hI=>?_
 refine dU hI 9 [Uc 0 9 _,Uc 1 10 _,Uc 2 11 _,Uc 3 12 _,Uc 4 8 _,Uc 5 13 _,Uc 6 14 _,Uc 7 6 _,Uc 8 7 _] (.ah .z) ⟨mv,mv,WT ((by have h:=EC (b:=b) (by omega) hb; rw[hbl]at h; exact h)) (look rfl),XL (EF h0 hn (m:=1) (j:=j) (by omega) hA (by rw[yX]; exact hbl) (λi hi=>vU (by omega)) Kc (C3 hb h1) h1 hj LW) (look rfl) (look rfl),mv,ext,ext,mv,mv,trivial⟩ (.xI (.bh (.dw (.k .z)))) λa w hI=>?_
 refine wp_seq ?_
 refine dU hI 2 [Uc 0 15 _,Uc 1 16 _] (.ah .z) ⟨mv,nt,trivial⟩ (.cA (.dk .z)) λa w hI=>?_
 refine Oi hI 3 rfl ?_
 refine dU hI 2 [Uc 0 4 _,Uc 1 5 _] (.t 0 (.t 1 (.kk .z))) ⟨mv,mv,trivial⟩ (.Hf (.kk .z)) λa w hI=>?_
 refine wp_ret ?_
 refine aB ?_
 exact jZ hI rfl (.tmp 1 rfl) (.tmp 2 rfl)
theorem G3 (hR:wZ A) (hA:gE A.length A) (hbl:b.length=A.length) (Kc:qu j A) (hb:∀k,aZ j (b.getD k 0)) (h1:1<=j) (hj:uv j A.length<=100000000) (LW:¬tY A b):∀(M:Nat->Nat->Prop) (w:World) (v0 v1:Value),cL M w->aO M (λw=>(aA 1 false A.length (λi=>aD (A.getD i []))) w v0) w->aO M (λw=>(aD b) w v1) w->Calls Tryz.prog 63 #[v0,v1] w (bH M (cN (aD (xQ A b)) (pI 0)) w):=by
 intro M w0 v0 v1 hM hv0 eI
 have h0:=hR.rows.1
 have hn:=hR.rows.2
 refine dr (N:=22) Tryz.func63 rfl rfl rfl hM (show cF M w0 [v0,v1] [⟨none,none,0,aA 1 false A.length (λi=>aD (A.getD i []))⟩,⟨none,none,1,aD b⟩]from⟨⟨rfl,_,rfl,hv0⟩,⟨rfl,_,rfl,eI⟩,trivial⟩) λa hI=>?_
 refine dU hI 2 [Uc 0 4 _,Uc 1 5 _] (.kk .z) ⟨mv,mv,trivial⟩ (.ah .z) λa w hI=>?_
 refine wp_seq ?_
 refine dU hI 3 [Uc 0 7 _,Uc 1 8 _,Uc 2 6 _] (.ah .z) ⟨mv,WT (xd hR (hA 0 h0)),mv,trivial⟩ (.ah (.lQ .z)) λa w hI=>?_
 refine dU hI 2 [Uc 0 9 _,Uc 1 10 (pB false)] (.ah (.k .z)) ⟨mv,dJ (v:=.bool (false)) (.tmp 5 rfl rfl) (.const _) (λ_=>rfl) (.here 6 rfl),trivial⟩ (.ah (.L8 .z)) λa w hI=>?_
 refine kM hI 5 rfl ?_
 refine wp_skip ?_
 refine ae ?_
 refine wp_seq ?_
 refine dU hI 5 [Uc 0 12 _,Uc 1 13 (pI (b.length:Int)),Uc 2 14 _,Uc 3 15 (pI (A.length:Int)),Uc 4 16 (pB false)] (.ah (.kk .z)) ⟨mv,fl (.tmp 6 rfl rfl) (bF).under (.here 7 rfl),mv,fl (.tmp 8 rfl rfl) (aX).under (.here 9 rfl),dJ (v:=.bool (((b.length:Int) != (A.length:Int)))) (.tmp 7 rfl rfl) (.tmp 9 rfl rfl) (λ_=>rfl) (.at_ 10 _ _ rfl (gw ((by rw[hbl]; exact bne_self_eq_false _)))),trivial⟩ (.ah (.bh (.lQ .z))) λa w hI=>?_
 refine kM hI 4 rfl ?_
 refine wp_skip ?_
 refine ae ?_
 refine dU hI 7 [Uc 0 17 _,Uc 1 18 _,Uc 2 19 _,Uc 3 20 _,Uc 4 21 _,Uc 5 4 _,Uc 6 5 _] (.kk (.t 5 (.t 6 (.k .z)))) ⟨mv,mv,XL (G7 h0 (by omega) hA hbl Kc hb h1 hj LW),ext,ext,mv,mv,trivial⟩ (.d8 (.xI .z)) λa w hI=>?_
 refine wp_ret ?_
 exact jZ hI rfl (.tmp 0 rfl) (.tmp 1 rfl)
theorem GZ (hR:wZ A) (hA:gE A.length A) (hbl:b.length=A.length) (Kc:qu j A) (hb:∀k,aZ j (b.getD k 0)) (h1:1<=j) (hj:uv j A.length<=100000000) (LW:tY A b):∀(M:Nat->Nat->Prop) (w:World) (v0 v1:Value),cL M w->aO M (λw=>(aA 1 false A.length (λi=>aD (A.getD i []))) w v0) w->aO M (λw=>(aD b) w v1) w->Calls Tryz.prog 63 #[v0,v1] w (bH M (cN (bg (.slice none 0 0)) (pI 6)) w):=by
 intro M w0 v0 v1 hM hv0 eI
 have h0:=hR.rows.1
 have hn:=hR.rows.2
 refine dr (N:=22) Tryz.func63 rfl rfl rfl hM (show cF M w0 [v0,v1] [⟨none,none,0,aA 1 false A.length (λi=>aD (A.getD i []))⟩,⟨none,none,1,aD b⟩]from⟨⟨rfl,_,rfl,hv0⟩,⟨rfl,_,rfl,eI⟩,trivial⟩) λa hI=>?_
 refine dU hI 2 [Uc 0 4 _,Uc 1 5 _] (.kk .z) ⟨mv,mv,trivial⟩ (.ah .z) λa w hI=>?_
 refine wp_seq ?_
 refine dU hI 3 [Uc 0 7 _,Uc 1 8 _,Uc 2 6 _] (.ah .z) ⟨mv,WT (xd hR (hA 0 h0)),mv,trivial⟩ (.ah (.lQ .z)) λa w hI=>?_
 refine dU hI 2 [Uc 0 9 _,Uc 1 10 (pB false)] (.ah (.k .z)) ⟨mv,dJ (v:=.bool (false)) (.tmp 5 rfl rfl) (.const _) (λ_=>rfl) (.here 6 rfl),trivial⟩ (.ah (.L8 .z)) λa w hI=>?_
 refine kM hI 5 rfl ?_
 refine wp_skip ?_
 refine ae ?_
 refine wp_seq ?_
 refine dU hI 5 [Uc 0 12 _,Uc 1 13 (pI (b.length:Int)),Uc 2 14 _,Uc 3 15 (pI (A.length:Int)),Uc 4 16 (pB false)] (.ah (.kk .z)) ⟨mv,fl (.tmp 6 rfl rfl) (bF).under (.here 7 rfl),mv,fl (.tmp 8 rfl rfl) (aX).under (.here 9 rfl),dJ (v:=.bool (((b.length:Int) != (A.length:Int)))) (.tmp 7 rfl rfl) (.tmp 9 rfl rfl) (λ_=>rfl) (.at_ 10 _ _ rfl (gw ((by rw[hbl]; exact bne_self_eq_false _)))),trivial⟩ (.ah (.bh (.lQ .z))) λa w hI=>?_
 refine kM hI 4 rfl ?_
 refine wp_skip ?_
 refine ae ?_
 refine dU hI 7 [Uc 0 17 _,Uc 1 18 _,Uc 2 19 _,Uc 3 20 _,Uc 4 21 _,Uc 5 4 _,Uc 6 5 _] (.kk (.t 5 (.t 6 (.k .z)))) ⟨mv,mv,XL (G6 h0 (by omega) hA hbl Kc hb h1 hj LW),ext,ext,mv,mv,trivial⟩ (.d8 (.xI .z)) λa w hI=>?_
 refine wp_ret ?_
 exact jZ hI rfl (.tmp 0 rfl) (.tmp 1 rfl)
end Wx

namespace Wx
set_option maxRecDepth 100000
set_option maxHeartbeats 1000000
open Go Go.RowKit Go.Proofs
set_option linter.unusedVariables false
attribute [local irreducible] OpOk
def Ll (L:List Rat) (o i:Nat):List Rat:=(((L.drop o).take 9).drop (i*3)).take 3
def xR (L:List Rat) (u:Nat):List Rat:=if u<3 then Ll L 0 u++Ll L 9 u else Ll L 9 (u-3)++Ll L 18 (u-3)
def tK (L:List Rat):List (List Rat):=[xR L 0,xR L 1,xR L 2,xR L 3,xR L 4,xR L 5]
def Bh (fo mo f g:List Rat) (u:Nat):Rat:=if u<3 then fo.getD u 0+f.getD u 0 else mo.getD (u-3) 0+g.getD (u-3) 0
def wW (fo mo f g:List Rat):List Rat:=[Bh fo mo f g 0,Bh fo mo f g 1,Bh fo mo f g 2,Bh fo mo f g 3,Bh fo mo f g 4,Bh fo mo f g 5]
variable {L:List Rat} {i:Nat}
theorem tZ {o:Nat} (h:o+9<=L.length) (hi:i<3):(Ll L o i).length=3:=by
 unfold Ll
 simp only[List.length_take,List.length_drop]
 omega
theorem rA {u:Nat} (h:L.length=27) (hu:u<6):(xR L u).length=6:=by
 unfold xR
 split
 ·rw[List.length_append,tZ (by omega) (by omega),tZ (by omega) (by omega)]
 ·rw[List.length_append,tZ (by omega) (by omega),tZ (by omega) (by omega)]
theorem rz:∀{u:Nat},u<6->(tK L).getD u []=xR L u
 |0,_=>rfl
 |1,_=>rfl
 |2,_=>rfl
 |3,_=>rfl
 |4,_=>rfl
 |5,_=>rfl
 |u+6,h=>absurd h (by omega)
variable {fo mo f g:List Rat}
theorem Qt:∀{u:Nat},u<6->(wW fo mo f g).getD u 0=Bh fo mo f g u
 |0,_=>rfl
 |1,_=>rfl
 |2,_=>rfl
 |3,_=>rfl
 |4,_=>rfl
 |5,_=>rfl
 |u+6,h=>absurd h (by omega)
variable {ms:Nat->List Rat} {S:List bK} {k:Nat}
theorem rQ:(xN ms S k).length=27:=dS
theorem Nc:gE 6 (tK (xN ms S k)):=λi hi=>by rw[rz hi]; exact rA rQ hi
theorem Jq:wZ (tK (xN ms S k)) where
 rows:=⟨by show 0<6; decide,by show 6<=8; decide⟩
 US:=by rw[rz (by decide),rA rQ (by decide)]; decide
 ZP:=λi hi=>by rw[rz hi,rz (by decide),rA rQ hi,rA rQ (by decide)]
def Ue (A:List (List Rat)) (b:List Rat) (jr:Nat):Pred:=λw v=>(tY A b->v=.slice none 0 0)/\(¬tY A b->FQ jr 6 (xQ A b) w v)
open Classical in
noncomputable def Gc (A:List (List Rat)) (b:List Rat):Int:=if tY A b then 6 else 0
variable {A:List (List Rat)} {b:List Rat}
theorem Qp:(xQ A b).length=A.length:=by
 unfold xQ nu
 rw[List.length_map,iI]
variable {ja jr:Nat}
theorem Ph (h:A.length=6/\wZ A/\gE 6 A/\b.length=6/\1<=ja/\qu ja A/\(∀k,aZ ja (b.getD k 0))/\uv ja 6<=100000000/\(¬tY A b->∀k,aZ jr ((xQ A b).getD k 0))):∀(M:Nat->Nat->Prop) (w:World) (v0 v1:Value),cL M w->aO M (λw=>(aA 1 false 6 (λi=>aD (A.getD i []))) w v0) w->aO M (λw=>(aD b) w v1) w->Calls Tryz.prog 63 #[v0,v1] w (bH M (cN (Ue A b jr) (pI (Gc A b))) w):=by
 obtain⟨h1,h2,h3,h4,h5,h6,h7,h8,h9⟩:=h
 intro M w v0 v1 hM hv0 eI
 rw[<-h1]at hv0 h3 h8
 by_cases hs:tY A b
 ·refine(GZ h2 h3 (by omega) h6 h7 h5 h8 hs M w v0 v1 hM hv0 eI).mono ?_
  rintro e w' ⟨v,e1,e2,e3⟩
  refine⟨v,e1,e2.imp λw hv=>?_,e3⟩
  obtain⟨u1,u2,e4,k1,k2⟩:=hv
  refine⟨u1,u2,e4,⟨λ_=>k1,λhn=>absurd hs hn⟩,?_⟩
  unfold Gc
  rw[if_pos hs]
  exact k2
 ·refine(G3 h2 h3 (by omega) h6 h7 h5 h8 hs M w v0 v1 hM hv0 eI).mono ?_
  rintro e w' ⟨v,e1,e2,e3⟩
  refine⟨v,e1,e2.imp λw hv=>?_,e3⟩
  obtain⟨u1,u2,e4,k1,k2⟩:=hv
  refine⟨u1,u2,e4,⟨λhn=>absurd hn hs,λ_=>?_⟩,?_⟩
  ·have hl:(xQ A b).length=6:=Qp.trans h1
   unfold aD at k1
   rw[hl]at k1
   exact lj (λq _ w v hv=>⟨h9 hs q,hv⟩) _ _ k1
  ·unfold Gc
   rw[if_neg hs]
   exact k2
theorem S3 {Jj:List Rat} (h:¬tY A b) (e:Jj=xQ A b):∀w v,Ue A b jr w v->FQ jr 6 Jj w v:=λ_ _ hv=>e▸hv.2 h
def six (s:List Rat):List Rat:=[s.getD 0 0,s.getD 1 0,s.getD 2 0,s.getD 3 0,s.getD 4 0,s.getD 5 0]
def sH (L:List Rat) (J i u:Nat):Pred:=if u<i\/(3<=u/\u<3+i)then FQ J 6 (xR L u)else bg (.slice none 0 0)
def sI (fo mo f g:List Rat) (J i u:Nat):Pred:=if u<i\/(3<=u/\u<3+i)then pR J (Bh fo mo f g u)else pR 1 0
structure GG (ms:Nat->List Rat) (S:List bK) (fo mo:List Rat) (x:Rat) (J Jt ja jr:Nat):Prop where
 of:∀m t k,m<3->t<9->k<=S.length->aZ J (tT ms S m t k)
 th:∀m t k,m<2->t<3->k<=S.length->aZ Jt (WD ms S x m t k)
 a1:1<=ja
 bA:qu ja (tK (xN ms S S.length))
 bb:∀k,aZ ja ((wW fo mo (qn ms S x 0 S.length) (qn ms S x 1 S.length)).getD k 0)
 gj:uv ja 6<=100000000
 res:¬tY (tK (xN ms S S.length)) (wW fo mo (qn ms S x 0 S.length) (qn ms S x 1 S.length))->∀k,aZ jr ((xQ (tK (xN ms S S.length)) (wW fo mo (qn ms S x 0 S.length) (qn ms S x 1 S.length))).getD k 0)
variable {j:Nat} {l:List Rat}
theorem QB:∀q,q<[l.getD 0 0,l.getD 1 0,l.getD 2 0].length->∀w v,pR j (l.getD q 0) w v->pR j ([l.getD 0 0,l.getD 1 0,l.getD 2 0].getD q 0) w v
 |0,_,_,_,h=>h
 |1,_,_,_,h=>h
 |2,_,_,_,h=>h
 |q+3,hq,_,_,_=>absurd hq (by show ¬q+3<3; omega)
theorem QA:∀q,q<[l.getD 3 0,l.getD 4 0,l.getD 5 0].length->∀w v,pR j (l.getD (3+q) 0) w v->pR j ([l.getD 3 0,l.getD 4 0,l.getD 5 0].getD q 0) w v
 |0,_,_,_,h=>h
 |1,_,_,_,h=>h
 |2,_,_,_,h=>h
 |q+3,hq,_,_,_=>absurd hq (by show ¬q+3<3; omega)
noncomputable def jl (n:Nat) (ms:Nat->List Rat) (S:List bK) (fo mo:List Rat) (x:Rat):Int:=if lq n ms S≠0 then lq n ms S else Gc (tK (xN ms S S.length)) (wW fo mo (qn ms S x 0 S.length) (qn ms S x 1 S.length))
def KQ (ms:Nat->List Rat) (S:List bK) (fo mo:List Rat) (x:Rat):List Rat:=six (xQ (tK (xN ms S S.length)) (wW fo mo (qn ms S x 0 S.length) (qn ms S x 1 S.length)))
open Classical in
noncomputable def dm (n:Nat) (ms:Nat->List Rat) (S:List bK) (fo mo:List Rat) (x:Rat):List Rat:=if jl n ms S fo mo x=0 then KQ ms S fo mo x else List.replicate 6 0
variable {J:Nat}
theorem Iz:∀u,u<6->∀w v,(λ_:Nat=>bg (.slice none 0 0)) u w v->sH L J 0 u w v:=λu _ w v h=>by
 unfold sH
 rw[if_neg (by omega)]
 exact h
theorem IB:∀u,u<6->∀w v,(λ_:Nat=>pR 1 0) u w v->sI fo mo f g J 0 u w v:=λu _ w v h=>by
 unfold sI
 rw[if_neg (by omega)]
 exact h
theorem Iy (hi:i<3):∀u,u<6->∀w v,Bf (Bf (sH L J i) i (FQ J (3+3) (((((L.drop 0).take 9).drop (i*3)).take 3)++((((L.drop 9).take 9).drop (i*3)).take 3)))) (3+i) (FQ J (3+3) (((((L.drop 9).take 9).drop (i*3)).take 3)++((((L.drop 18).take 9).drop (i*3)).take 3))) u w v->sH L J (i+1) u w v:=by
 intro u hu w v h
 unfold Bf at h
 by_cases h1:u=3+i
 ·rw[if_pos h1]at h
  unfold sH xR
  rw[if_pos (by omega),if_neg (by omega),show u-3=i by omega]
  exact h
 ·rw[if_neg h1]at h
  by_cases h2:u=i
  ·rw[if_pos h2]at h
   unfold sH xR
   rw[if_pos (by omega),if_pos (by omega),h2]
   exact h
  ·rw[if_neg h2]at h
   unfold sH at h ⊢
   by_cases h3:u<i\/(3<=u/\u<3+i)
   ·rw[if_pos h3]at h; rw[if_pos (by omega)]; exact h
   ·rw[if_neg h3]at h; rw[if_neg (by omega)]; exact h
theorem IA {k1 k2:Nat} (hi:i<3) (h1:k1<=J) (h2:k2<=J):∀u,u<6->∀w v,Bf (Bf (sI fo mo f g J i) i (pR k1 (fo.getD i 0+f.getD i 0))) (3+i) (pR k2 (mo.getD i 0+g.getD i 0)) u w v->sI fo mo f g J (i+1) u w v:=by
 intro u hu w v h
 unfold Bf at h
 by_cases h3:u=3+i
 ·rw[if_pos h3]at h
  unfold sI Bh
  rw[if_pos (by omega),if_neg (by omega),show u-3=i by omega]
  exact nF h2 w v h
 ·rw[if_neg h3]at h
  by_cases h4:u=i
  ·rw[if_pos h4]at h
   unfold sI Bh
   rw[if_pos (by omega),if_pos (by omega),h4]
   exact nF h1 w v h
  ·rw[if_neg h4]at h
   unfold sI at h ⊢
   by_cases h5:u<i\/(3<=u/\u<3+i)
   ·rw[if_pos h5]at h; rw[if_pos (by omega)]; exact h
   ·rw[if_neg h5]at h; rw[if_neg (by omega)]; exact h
theorem Mf:∀u,u<6->∀w v,sH (xN ms S k) J 3 u w v->aD ((tK (xN ms S k)).getD u []) w v:=by
 intro u hu w v h
 unfold sH at h
 rw[if_pos (by omega)]at h
 rw[rz hu]
 unfold aD
 rw[rA rQ hu]
 exact lj (λq _ w v hv=>hv.2) _ _ h
theorem Mg:∀u,u<6->∀w v,sI fo mo f g J 3 u w v->au ((wW fo mo f g).getD u 0) w v:=by
 intro u hu w v h
 unfold sI at h
 rw[if_pos (by omega)]at h
 rw[Qt hu]
 exact h.2
theorem Ma {n jf jw Jt:Nat} {x:Rat} (h:jQ n j ms/\j<=100000/\n<=1000000/\S.length<=1000000/\fo.length=3/\mo.length=3/\1<=jw/\jw<=1000000/\jf<=1000000/\1<=J/\J<=10000000/\1<=Jt/\Jt<=10000000/\1<=jr/\(lq n ms S=0->GG ms S fo mo x J Jt ja jr)):K5 Tryz.prog 14 (aA 48 true n λi=>pV au j (ms i)) (aA 4 true S.length λi=>cP (ai S i)) (pV au jf fo) (pV au jf mo) (pR jw x) (cN (pV au jr (dm n ms S fo mo x)) (pI (jl n ms S fo mo x))):=by
 intro M w0 v0 v1 v2 v3 v4 hM hv0 eI hv2 hv3 hv4
 refine adV (N:=113) Tryz.func14 rfl rfl rfl hM hv0 eI hv2 hv3 hv4 λa hI=>?_
 refine bf hI 5 [⟨9,9,some 2,none,.ptr,40,3,true,pv _,[]⟩,⟨10,10,some 3,none,.ptr,52,18,true,pv _,[]⟩] [] [Uc 0 7 _,Uc 1 8 _,Uc 4 11 _] .z (.ah (.k .z)) ⟨AK 9 true,AK 9 true,bo,lE jr 6,mv,trivial⟩ (.k (.k .z)) (.dI (.mw .z)) λa w hI=>?_
 refine az ?_
 refine bf hI 4 [] [] [Uc 0 21 _,Uc 1 22 _,Uc 2 23 _,Uc 3 12 _] (.k (.k .z)) (.ah (.k .z)) ⟨mv,mv,pq (uF (n:=n) (J:=j) (ms:=ms)) (hφ:=⟨h.1.m16,h.1.j1,by omega,by omega,by omega⟩),mv,trivial⟩ (.k (.k .z)) (.ah (.dx (.k .z))) λa w hI=>?_
 refine bf hI 2 [] [] [Uc 0 24 _,Uc 1 25 _] (.k (.k .z)) (.ah (.kk .z)) ⟨mv,bn,trivial⟩ (.k (.k .z)) (.ah (.sq .z)) λa w hI=>?_
 refine mj hI (λt1=>?_) (λt1=>?_)
 ·
  have e1:jl n ms S fo mo x=lq n ms S:=by unfold jl; rw[if_pos t1]
  refine bf hI 4 [] [] [Uc 0 26 _,Uc 1 27 _,Uc 3 11 _] (.k (.u none [(2,pv _)] .z)) (.ah (.t 3 (.kk .z))) ⟨UG jr 6,mv,dM,mv,trivial⟩ (.k (.s .o .z)) (.ah (.bh (.dk .z))) λa w hI=>?_
  refine aL ?_
  refine aB ?_
  exact jZ hI rfl (r7 (hq:=cq (by unfold dm; rw[if_neg (by rw[e1]; exact t1)]) (Nat.le_refl _))) (iu (hq:=bk e1.symm))
 ·
  have e0:lq n ms S=0:=Decidable.not_not.1 t1
  have hok:=mP h.1.m16 e0
  have hr:=h.2.2.2.2.2.2.2.2.2.2.2.2.2.2 e0
  have hL:=rQ (ms:=ms) (S:=S) (k:=S.length)
  have hT0:=yE (ms:=ms) (S:=S) (x:=x) (m:=0) (k:=S.length)
  have hT1:=yE (ms:=ms) (S:=S) (x:=x) (m:=1) (k:=S.length)
  refine aJ ?_
  refine ae ?_
  refine bf hI 5 [⟨13,13,some 3,none,.ptr,77,81,true,pv _,[(4,pv _)]⟩] [] [Uc 0 28 _,Uc 1 29 _,Uc 2 30 _] (.k (.k .z)) (.ah (.bS .z)) ⟨mv,mv,pq (Zv (n:=n) (j:=j) (J:=J) (ms:=ms) (S:=S)) (hφ:=⟨hok,h.1.j1,by omega,by omega,by omega,hr.of⟩),fB [.r,.r,.r,.r,.r,.r,.r,.r,.r,.r,.r,.r,.r,.r,.r,.r,.r,.r,.r,.r,.r,.r,.r,.r,.r,.r,.r],dM,trivial⟩ (.k (.k (.s .o .z))) (.ah (.dx (.dd .z))) λa w hI=>?_
  have hI:=Ju hI 2 rfl (by kernel_rfl)
  dsimp only[List.eraseIdx]at hI
  refine bf hI 11 [⟨14,14,some 7,none,.ptr,43,9,true,pv _,[(9,pv _)]⟩,⟨15,15,some 8,none,.ptr,43,9,true,pv _,[(10,pv _)]⟩] [] [Uc 0 32 _,Uc 1 33 _,Uc 2 34 _,Uc 3 35 _,Uc 4 31 _,Uc 5 36 _,Uc 6 37 _] (.k (.k .z)) (.ah (.kk .z)) ⟨mv,mv,ld,WS (Me (n:=n) (j:=j) (jw:=jw) (J:=Jt) (ms:=ms) (S:=S) (x:=x)) (hφ:=⟨hok,h.1,by omega,by omega,by omega,by omega,by omega,hr.th⟩),mv,ext,ext,fB [.r,.r,.r],fB [.r,.r,.r],dM,dM,trivial⟩ (.d (.k (.s .o (.s .o .z)))) (.nh (.dI (.bh (.d .z)))) λa w hI=>?_
  have hI:=Ju hI 1 rfl (by kernel_rfl)
  dsimp only[List.eraseIdx]at hI
  have hI:=Ju hI 1 rfl (by kernel_rfl)
  dsimp only[List.eraseIdx]at hI
  refine bf hI 2 [⟨38,38,some 0,some 1,.row 6,153,6,true,pv _,[]⟩,⟨16,16,some 1,none,.row 6,153,6,true,pv _,[]⟩] [] [] (.k .z) (.ah (.kk .z)) ⟨msC 1 6 false (bg (.slice none 0 0)) [.slice none 0 0] (.slice none 0 0),asC,trivial⟩ (.k (.d (.k .z))) (.ah (.kk .z)) λa w hI=>?_
  obtain⟨g16,hI⟩:=Inv.KF hI 1 rfl rfl rfl
  refine bf hI 2 [⟨39,39,some 0,some 1,.row 6,40,18,true,pv _,[]⟩,⟨17,17,some 1,none,.row 6,40,18,true,pv _,[]⟩] [] [] (.k (.k .z)) (.ah (.bS .z)) ⟨msC 3 6 true (pR 1 0) Zl.r.cs (.agg Zl.r.cs.toArray) (hzu:=λu hu=>Az [.r] u (by simpa using hu)) (hit:=λw=>⟨XC,ew w⟩),asC,trivial⟩ (.k (.k (.d (.k .z)))) (.ah (.bS .z)) λa w hI=>?_
  obtain⟨g17,hI⟩:=Inv.KF hI 2 rfl rfl rfl
  refine az ?_
  refine bf hI 1 [] [] [Uc 0 40 _] (.k (.k (.k .z))) (.k8 .z) ⟨mv,trivial⟩ (.k (.k (.k .z))) (.k8 (.k .z)) λa w hI=>?_
  refine aC ?_
  refine tN [Vz 10 10 52 18 true _] [Uz 17 _,Uz 16 _,Uz 15 _,Uz 14 _,Uz 13 _,Uz 7 _,Uz 8 _,Uz 11 _] (λ(i:Nat)=>[Rz 16 16 6 153 6 (uT 1 false 6 (sH (xN ms S S.length) J i)),Rz 17 17 6 40 18 (uT 3 true 6 (sI fo mo (qn ms S x 0 S.length) (qn ms S x 1 S.length) (jf+Jt+1) i))]) (λ(i:Nat)=>[Uz 40 (pI (i:Int))]) (λ(i:Nat)=>i<=3) (λ(i:Nat)=>3-i) (0) (Nat.zero_le 3) hI ⟨vi,vR (yA Iz),vR (yA IB),trivial⟩ ⟨gi,gi,gi,gi,gi,gi,gi,gi,gc,trivial⟩ ?_
  intro i a w hi hI
  refine bf hI 1 [] [] [Uc 0 41 _] (.k (.k (.k .z))) (.k8 (.k .z)) ⟨bn,trivial⟩ (.k (.k (.k .z))) (.k8 (.kk .z)) λa w hI=>?_
  refine az ?_
  refine mj hI (λt2=>?_) (λt2=>?_)
  ·
   refine aJ ?_
   refine ae ?_
   refine az ?_
   refine aC ?_
   refine bf hI 2 [] [] [Uc 0 42 _,Uc 1 18 _] (.k (.k (.k .z))) (.k8 (.kk .z)) ⟨mv,mv,trivial⟩ (.k (.k (.k .z))) (.k8 (.nh .z)) λa w hI=>?_
   refine mR hI [0,0,0,0,0,24,56,124,0,0,768,1792,4092,8191,16383] [⟨50,50,some 7,some 12,.grow 3 3,40,3,true,pv cY,[]⟩,⟨55,55,some 12,none,.grow 6 3,40,3,true,pv cY,[]⟩] [] [Uc 0 43 _,Uc 1 44 _,Uc 2 45 _,Uc 3 46 _,Uc 4 47 _,Uc 5 48 _,Uc 6 49 _,Uc 7 50 _,Uc 8 51 _,Uc 9 52 _,Uc 10 53 _,Uc 11 54 _,Uc 12 55 _,Uc 13 56 _] (.k (.u none [(14,pv _)] (.k .z))) (.k8 (.kk .z)) ⟨mv,mv,bs0 (sz:=3) 40,mv,fW 0 9,iW 3 3 i,WC 3 J,ap0,mv,fW 9 9,iW 3 3 i,WC 3 J,Z7,iX 1 i,sC 16 i,trivial⟩ (.k (.s .o (.k (.d (.d .z))))) (.k8 (.dI (.d8 (.bh .z)))) λa w hI=>?_
   refine mR hI [0,0,2,0,0,0,48,112,248,0,0,1536,3584,8184,16383,32767] [⟨65,65,some 8,some 13,.grow 3 3,40,3,true,pv cY,[]⟩,⟨70,70,some 13,none,.grow 6 3,40,3,true,pv cY,[]⟩] [] [Uc 0 57 _,Uc 1 58 _,Uc 2 59 _,Uc 3 60 _,Uc 4 61 _,Uc 5 62 _,Uc 6 63 _,Uc 7 64 _,Uc 8 65 _,Uc 9 66 _,Uc 10 67 _,Uc 11 68 _,Uc 12 69 _,Uc 13 70 _,Uc 14 71 _] (.k (.u none [(15,pv _)] (.k .z))) (.k8 (.kk .z)) ⟨mv,mv,bn,bs0 (sz:=3) 40,mv,fW 9 9,iW 3 3 i,WC 3 J,ap0,mv,fW 18 9,iW 3 3 i,WC 3 J,Z7,iX 1 (3+i),sC 16 (3+i),trivial⟩ (.k (.s .o (.k (.d (.d .z))))) (.k8 (.dI (.d8 (.bh (.d .z))))) λa w hI=>?_
   refine QK hI [0,0,0,0,8,0,32,96,0,256,768,2016,0,4096,12288,0,32768,98304,262112,524259,1048547,2097151,4194303] [] [] [Uc 0 72 _,Uc 1 73 _,Uc 2 74 _,Uc 3 75 _,Uc 4 76 _,Uc 5 77 _,Uc 6 78 _,Uc 7 79 _,Uc 8 80 _,Uc 9 81 _,Uc 10 82 _,Uc 11 83 _,Uc 12 84 _,Uc 13 85 _,Uc 14 86 _,Uc 15 87 _,Uc 16 88 _,Uc 17 89 _,Uc 18 90 _,Uc 19 91 _,Uc 21 92 _] (.k (.k (.u none [(20,pv _),(22,pv _)] .z))) (.k8 (.kk .z)) ⟨mv,mv,mv,mv,bn,mv,iQ 3 i,ld,mv,iQ 3 i,ld,fZ ow,mv,iQ 3 i,ld,mv,iQ 3 i,ld,fZ ow,iX 3 i,sC 17 i,iX 3 (3+i),sC 17 (3+i),trivial⟩ (.k (.k (.s (.c .o) .z))) (.k8 (.dx (.d8 (.d8 (.qy .z))))) λa w hI=>?_
   refine aG ?_
   refine ae ?_
   refine qq hI 2 [] [] [Uc 0 93 _,Uc 1 40 _] (.k (.k (.k .z))) (.k8 (.t 1 .z)) ⟨bn,mv,trivial⟩ (.k (.k (.k .z))) (.k8 (.lQ .z)) λa w hI=>?_
   refine ae ?_
   exact qR (i+1) (by omega) hI ⟨vc,vR (yA (Iy (by omega))),vR (yA (IA (J:=jf+Jt+1) (k1:=jf+Jt+1) (k2:=jf+Jt+1) (by omega) (Nat.le_refl _) (Nat.le_refl _))),trivial⟩ ⟨gc,gc,gc,gc,gc,gc,gc,gc,gc,trivial⟩ (by omega)
  ·
   refine bO ?_
   refine ak ?_
   refine ak ?_
   refine aH ?_
   refine ae ?_
   obtain rfl:i=3:=by omega
   have hI:=Inv.KR (k0:=1) hI (show _=some (Rz _ _ _ _ _ _)from rfl:_[1]?=_) (by kernel_rfl) (by decide) (Mf)
   dsimp only[List.eraseIdx]at hI
   have hI:=Inv.KR (k0:=1) hI (show _=some (Rz _ _ _ _ _ _)from rfl:_[1]?=_) (by kernel_rfl) (by decide) (Mg)
   dsimp only[List.eraseIdx]at hI
   refine bf hI 8 [] [] [Uc 0 95 _,Uc 1 96 _,Uc 2 97 _,Uc 3 94 _,Uc 4 98 _,Uc 5 99 _,Uc 6 19 _,Uc 7 20 _] (.k .z) (.k8 (.kk .z)) ⟨mv,mv,pq (Ph (A:=tK (xN ms S S.length)) (b:=wW fo mo (qn ms S x 0 S.length) (qn ms S x 1 S.length)) (ja:=ja) (jr:=jr)) (hφ:=⟨rfl,Jq,Nc,rfl,hr.a1,hr.bA,hr.bb,hr.gj,hr.res⟩),mv,ext,ext,mv,mv,trivial⟩ (.k .z) (.bh (.dw (.d8 (.kk .z)))) λa w hI=>?_
   refine az ?_
   refine bf hI 2 [] [] [Uc 0 100 _,Uc 1 101 _] (.k .z) (.bS .z) ⟨mv,bn,trivial⟩ (.k .z) (.cA (.k .z)) λa w hI=>?_
   refine mj hI (λt3=>?_) (λt3=>?_)
   ·
    have e2:jl n ms S fo mo x=Gc (tK (xN ms S S.length)) (wW fo mo (qn ms S x 0 S.length) (qn ms S x 1 S.length)):=by unfold jl; rw[if_neg t1]
    refine bf hI 4 [] [] [Uc 0 102 _,Uc 1 103 _,Uc 3 11 _] (.u none [(2,pv _)] .z) (.t 3 (.bS .z)) ⟨UG jr 6,mv,dM,mv,trivial⟩ (.s .o .z) (.LC (.lQ .z)) λa w hI=>?_
    refine aL ?_
    refine aB ?_
    exact jZ hI rfl (r7 (hq:=cq (by unfold dm; rw[if_neg (by rw[e2]; exact t3)]) (Nat.le_refl _))) (iu (hq:=bk e2.symm))
   ·
    have e3:jl n ms S fo mo x=0:=by unfold jl; rw[if_neg t1]; exact Decidable.not_not.1 t3
    refine aJ ?_
    refine ae ?_
    have hns:¬tY (tK (xN ms S S.length)) (wW fo mo (qn ms S x 0 S.length) (qn ms S x 1 S.length)):=λhh=>t3 (by unfold Gc; rw[if_pos hh]; decide)
    obtain⟨Jj,Y9⟩:∃s,s=xQ (tK (xN ms S S.length)) (wW fo mo (qn ms S x 0 S.length) (qn ms S x 1 S.length)):=⟨_,rfl⟩
    have hI:=CN hI 19 (S3 hns Y9)
    refine mR hI [0,1,3,7,0,16,48,112,255,511,1023] [] [] [Uc 0 104 _,Uc 1 105 _,Uc 2 106 _,Uc 3 107 _,Uc 4 108 _,Uc 5 109 _,Uc 6 110 _,Uc 7 111 _,Uc 8 112 _,Uc 10 11 _] (.u none [(9,pv _)] .z) (.k (.t 10 (.bS .z))) ⟨mv,slH 3,arP [Jj.getD 0 0,Jj.getD 1 0,Jj.getD 2 0] (l:=[Jj.getD 0 0,Jj.getD 1 0,Jj.getD 2 0]) (hf:=QB),ld,mv,slL 3,arP [Jj.getD 3 0,Jj.getD 4 0,Jj.getD 5 0] (l:=[Jj.getD 3 0,Jj.getD 4 0,Jj.getD 5 0]) (hf:=QA),ld,bd [.m [.r,.r,.r],.m [.r,.r,.r]] [(0,_),(1,_)],dM,mv,trivial⟩ (.s .o .z) (.d8 (.bh (.lQ .z))) λa w hI=>?_
    refine aL ?_
    exact jZ hI rfl (r7 (hq:=λw v hv=>(show pV au jr (dm n ms S fo mo x) w v from by unfold dm; rw[if_pos e3]; unfold KQ; rw[<-Y9]; exact w7.pV (by unfold six; repeat' (first|exact w7.z|refine w7.c (Nat.le_refl _) ?_)) w v hv))) (iu (hq:=bk e3.symm))
end Wx
