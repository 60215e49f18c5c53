import Derived.Test.YtkcceahelokheaaGreatJLT40
namespace Wx
attribute [local irreducible] OpOk
set_option maxRecDepth 100000
open Go Go.RowKit Go.Proofs
set_option linter.unusedVariables false
theorem JT {l:List Rat} (hn:0<l.length) (hm:l.length<=1000000):∀(M:Nat->Nat->Prop) (w:World) (v0:Value),cL M w->aO M (λw=>(aD l) w v0) w->Calls Tryz.prog 188 #[v0] w (CI l w):=by
 intro M w0 v0 hM hv0
 refine dr (N:=8) Tryz.func188 rfl rfl rfl hM (show cF M w0 [v0] [⟨none,none,0,aD l⟩]from⟨⟨rfl,_,rfl,hv0⟩,trivial⟩) λa hI=>?_
 refine dU hI 1 [Uc 0 2 _] (.k .z) ⟨mv,trivial⟩ (.kk .z) λa w hI=>?_
 refine wp_seq ?_
 refine dU hI 2 [Uc 0 3 _,Uc 1 4 (pB false)] (.kk .z) ⟨mv,Cc (.tmp 2 rfl rfl) hn (bF).under (.here 3 rfl),trivial⟩ (.sq .z) λa w hI=>?_
 refine kM hI 2 rfl ?_
 refine wp_skip ?_
 refine ae ?_
 refine lA hI 4 [⟨7,7,some 2,some 3,(.grow (l.length) 3),40,0,false,pv cY,[]⟩,⟨2,2,some 3,none,(.grow (l.length) 3),40,0,false,pv cY,[]⟩] [] [Uc 0 5 wI,Uc 1 6 _,Uc 2 7 (aD l),Uc 3 2 (aD l)] .z (.k (.t 3 (.k .z))) ⟨qY bF (.here 3 rfl),mv,tB 0 rfl rfl rfl rfl (by kernel_rfl) (.tmp 3 rfl rfl) (.tmp 4 rfl rfl) sX (λh=>by cases h) (λi _=>cV _) hn (by omega) (.here 5 rfl),jb 0 rfl rfl (by kernel_rfl) rfl rfl 1 rfl rfl rfl rfl (by kernel_rfl) (.tmp 5 rfl rfl) (.here 6 rfl),trivial⟩ (.d (.k .z)) (.bh (.lQ .z)) λa w hI=>?_
 refine wp_ret ?_
 exact U5 hI rfl (n0:=0) rfl hn (k:=0) rfl
theorem Qa {X:List (List Rat)} (hn:0<X.length) (hx:X.length<=1000000) (hX:∀i,i<X.length->0<(X.getD i []).length) (hm:∀i,i<X.length->(X.getD i []).length<=1000000):∀(M:Nat->Nat->Prop) (w:World) (v0:Value),cL M w->aO M (λw=>(aA 1 false X.length (λi=>aD (X.getD i []))) w v0) w->Calls Tryz.prog 185 #[v0] w (Re (Xw X) (NM.hd X.length) (λl=>l.H) w):=by
 intro M w0 v0 hM hv0
 refine dr (N:=19) Tryz.func185 rfl rfl rfl hM (show cF M w0 [v0] [⟨none,none,0,aA 1 false X.length (λi=>aD (X.getD i []))⟩]from⟨⟨rfl,_,rfl,hv0⟩,trivial⟩) λa hI=>?_
 refine dU hI 1 [Uc 0 2 _] (.k .z) ⟨mv,trivial⟩ (.kk .z) λa w hI=>?_
 refine lA hI 1 [⟨3,3,some 0,none,(.grow 0 1),153,0,false,pv cY,[]⟩] [] [Uc 0 3 (aA 1 false ([]:List ct).length (λi=>ni (rowAt ([]:List ct) i) (X.getD i [])))] .z (.kk .z) ⟨DG 0 rfl rfl rfl (by kernel_rfl) (.here 2 rfl),trivial⟩ (.k .z) (.bS .z) λa w hI=>?_
 refine wp_seq ?_
 refine lA hI 3 [] [] [Uc 0 6 _,Uc 1 7 (pI (X.length:Int)),Uc 2 8 _] (.k .z) (.bS .z) ⟨mv,fl (.tmp 3 rfl rfl) (aX).under (.here 4 rfl),mv,trivial⟩ (.k .z) (.mw (.kk .z)) λa w hI=>?_
 refine wp_block ?_
 refine dL (λ(R:List ct) a w=>(R.length<=X.length/\(R.Pairwise λx y=>x.b≠y.b)/\∀r,r∈R->w0.heap.size<=r.b)/\Inv ⟨19,w0,M,λ_=>False⟩ [⟨3,3,none,none,(.grow R.length 1),153,0,false,pv cY,[]⟩] [] [⟨none,none,2,bg ((Value.slice none 0 0))⟩,⟨none,none,3,aA 1 false R.length (λi=>ni (rowAt R i) (X.getD i []))⟩,⟨none,none,6,aA 1 false X.length (λi=>aD (X.getD i []))⟩,⟨none,none,7,pI (X.length:Int)⟩,⟨none,none,8,pI (R.length:Int)⟩] none_ a w) (λ(R:List ct)=>X.length-R.length) (([]:List ct)) ⟨⟨Nat.zero_le _,List.Pairwise.nil,λr hr=>by cases hr⟩,(hI.conv ⟨⟨0,_,_,rfl,⟨rfl,rfl,rfl⟩,rfl,λ_=>λ_ _ h=>h⟩,trivial⟩ ⟨⟨rfl,rfl,0,_,rfl,λ_ _ h=>h⟩,⟨rfl,rfl,1,_,rfl,λ_ _ h=>h⟩,⟨rfl,rfl,2,_,rfl,λ_ _ h=>h⟩,⟨rfl,rfl,3,_,rfl,λ_ _ h=>h⟩,⟨rfl,rfl,4,_,rfl,(bk rfl)⟩,trivial⟩)⟩ ?_
 intro R a w zo
 obtain⟨hp,hI⟩:=zo
 refine lA hI 1 [] [] [Uc 0 9 _] (.k .z) (.ah (.k .z)) ⟨bl,trivial⟩ (.k .z) (.ah (.kk .z)) λa w hI=>?_
 refine wp_seq ?_
 refine dD hI 5 rfl (λht=>?_) (λht=>?_)
 ·have t1:=of_decide_eq_true ht
  refine wp_skip ?_
  refine ae ?_
  refine wp_seq ?_
  refine wp_block ?_
  refine lA hI 3 [] [] [Uc 0 10 _,Uc 1 11 (aD (X.getD R.length [])),Uc 2 5 _] (.k .z) (.ah (.kk .z)) ⟨Xi aX,dQ (.tmp 6 rfl rfl) bw ((dF _)) (.here 7 rfl),mv,trivial⟩ (.k .z) (.ah (.dx (.k .z))) λa w hI=>?_
  refine DW hI [⟨12,12,some 0,none,(.grow R.length 1),153,0,false,pv cY,[]⟩] [] [⟨some 0,none,12,aA 1 false R.length (λi=>ni (rowAt R i) (X.getD i []))⟩,⟨some 1,none,13,aD (X.getD R.length [])⟩] (.u (some 0) [] .z) (.ah (.kk .z)) rfl [0,1,3,7,15,31] 2 (by kernel_rfl) ?_ (.d (.k .z)) (.oM (.oM .z)) (λa w hI=>hI) (⟨_,λa w hI=>(D5 (λ_ _=>by kernel_rfl) hI (.tmp 5 rfl rfl) (λM w v hM hv=>JT (hX _ (by omega)) (hm _ (by omega)) M w v hM hv) (by kernel_rfl) (by kernel_rfl) (by kernel_rfl)).exC (C':=λl:ct=>w0.heap.size<=l.b/\∀q,q∈R->q.b≠l.b) λl hl=>⟨Nat.le_trans hI.grown hl,λq hq=>Nat.ne_of_lt (Nat.lt_of_lt_of_le (SP (k:=4) hI rfl q hq) hl)⟩,
    _,Oo λl hC a w hI=>ru hI [] [⟨some 0,none,15,aA 1 false 1 (λ_=>ni l (X.getD R.length []))⟩] (.k .z) (.ah (.bS .z)) (by kernel_rfl) (gJ (agg:=false) aX CA rfl rfl (by decide) (.tmp 0 rfl rfl) (zg _ _) (.here 7 rfl)) (.k .z) (.mw (.sq .z)),
    _,Oo λl hC a w hI=>ru hI [⟨16,16,some 0,none,(.grow (R.length+1) 1),153,0,false,pv cY,[]⟩] [⟨some 0,none,16,aA 1 false (R++[l]).length (λi=>ni (rowAt (R++[l]) i) (X.getD i []))⟩] (.u (some 0) [] .z) (.ah (.kk .z)) (by kernel_rfl) (rR 0 rfl rfl (by kernel_rfl) rfl rfl 1 rfl rfl rfl rfl rfl (by kernel_rfl) (by kernel_rfl) (.tmp 4 rfl rfl) (.tmp 5 rfl rfl) Ex (λ_=>rfl) (λi _=>zg _ _) (λi _=>zg _ _) (by omega) (.at_ 6 _ _ rfl EK)) (.d (.k .z)) (.ah (.lQ .z)),
    _,Oo λl hC a w hI=>ru hI [⟨3,3,some 0,none,(.grow (R.length+1) 1),153,0,false,pv cY,[]⟩] [⟨some 0,none,3,aA 1 false (R++[l]).length (λi=>ni (rowAt (R++[l]) i) (X.getD i []))⟩] (.u (some 0) [] .z) (.ah (.k .z)) (by kernel_rfl) (jb 0 rfl rfl (by kernel_rfl) rfl rfl 1 rfl rfl rfl rfl (by kernel_rfl) (.tmp 4 rfl rfl) (.here 5 rfl)) (.d (.k .z)) (.ah (.dk .z)),
    rfl⟩) ?_
  ·exact⟨q8 0 rfl rfl (by kernel_rfl) rfl rfl 1 rfl rfl rfl rfl (by kernel_rfl) (.tmp 1 rfl rfl) (.here 6 rfl),aW (.tmp 5 rfl rfl) (.here 7 rfl),trivial⟩
  ·rintro a w ⟨l,hC,hI⟩
   have hC:w0.heap.size<=l.b/\∀q,q∈R->q.b≠l.b:=hC
   refine aG ?_
   refine ae ?_
   refine Qq hI 2 [] [] [Uc 0 17 _,Uc 1 8 _] (.k .z) (.bS (.t 1 (.k .z))) ⟨bl,mv,trivial⟩ (.k .z) (.cA (.L8 .z)) λa w hI=>?_
   refine ae ?_
   exact⟨R++[l],⟨⟨by simp; omega,A8 hp.2.1 hC.2,λr hr=>(List.mem_append.1 hr).elim (hp.2.2 r) λh=>by rw[List.mem_singleton.1 h]; exact hC.1⟩,(hI.conv ⟨⟨0,_,_,rfl,⟨rfl,rfl,rfl⟩,(congrArg (Kd.grow · 1) (by simp)),λ_=>λ_ _ h=>h⟩,trivial⟩ ⟨⟨rfl,rfl,0,_,rfl,λ_ _ h=>h⟩,⟨rfl,rfl,3,_,rfl,λ_ _ h=>h⟩,⟨rfl,rfl,1,_,rfl,λ_ _ h=>h⟩,⟨rfl,rfl,2,_,rfl,λ_ _ h=>h⟩,⟨rfl,rfl,4,_,rfl,(bk (by simp))⟩,trivial⟩)⟩,(show X.length-(R++[l]).length<X.length-R.length by simp; omega)⟩
 ·have t2:=of_decide_eq_false ht
  refine wp_exit ?_
  refine ak ?_
  refine ak ?_
  refine aH ?_
  refine ae ?_
  refine lA hI 2 [⟨18,18,some 0,some 1,(.grow R.length 1),153,0,false,pv cY,[]⟩,⟨2,2,some 1,none,(.grow R.length 1),153,0,false,pv cY,[]⟩] [] [Uc 0 18 (aA 1 false R.length (λi=>ni (rowAt R i) (X.getD i []))),Uc 1 2 (aA 1 false R.length (λi=>ni (rowAt R i) (X.getD i [])))] (.u (some 0) [] .z) (.t 1 (.ah (.k .z))) ⟨q8 0 rfl rfl (by kernel_rfl) rfl rfl 1 rfl rfl rfl rfl (by kernel_rfl) (.tmp 1 rfl rfl) (.here 6 rfl),jb 1 rfl rfl (by kernel_rfl) rfl rfl 2 rfl rfl rfl rfl (by kernel_rfl) (.tmp 6 rfl rfl) (.here 7 rfl),trivial⟩ (.d (.d (.k .z))) (.bh (.dw .z)) λa w hI=>?_
  refine wp_ret ?_
  exact LG hI rfl (n0:=0) rfl (by omega) hX (by omega) hp.2.1 hp.2.2 (k:=0) rfl
end Wx

namespace Wx
attribute [local irreducible] OpOk
set_option maxRecDepth 100000
open Go Go.RowKit Go.Proofs
set_option linter.unusedVariables false
variable {X:List (List Rat)}
theorem N7 {l:List Rat} (h0:0<X.length) (hX:X.length<=1000000):∀(M:Nat->Nat->Prop) (w:World) (v0 v1:Value),cL M w->aO M (λw=>(aD l) w v0) w->aO M (λw=>(cZ 1 false (aA 1 false X.length (λi=>aD (X.getD i [])))) w v1) w->Calls Tryz.prog 184 #[v0,v1] w (bH M (pB ((l.length:Int) != ((X.getD 0 []).length:Int))) w):=by
 intro M w0 v0 v1 hM hv0 eI
 refine eK (N:=11) Tryz.func184 rfl rfl rfl hM (show cF M w0 [v0,v1] [⟨none,none,0,aD l⟩,⟨none,none,1,cZ 1 false (aA 1 false X.length (λi=>aD (X.getD i [])))⟩]from⟨⟨rfl,_,rfl,hv0⟩,⟨rfl,_,rfl,eI⟩,trivial⟩) λa hI=>?_
 refine dU hI 1 [Uc 0 3 _] (.kk .z) ⟨mv,trivial⟩ (.bS .z) λa w hI=>?_
 refine dU hI 8 [Uc 0 4 _,Uc 1 5 (pI (l.length:Int)),Uc 2 6 (aA 1 false X.length (λi=>aD (X.getD i []))),Uc 3 7 _,Uc 4 8 (aD (X.getD 0 [])),Uc 5 9 (pI ((X.getD 0 []).length:Int)),Uc 6 10 _,Uc 7 3 _] (.kk (.t 7 .z)) ⟨mv,fl (.tmp 3 rfl rfl) (bF).under (.here 4 rfl),dQ (.tmp 1 rfl rfl) r6 (uu) (.here 5 rfl),Zo aX,dQ (.tmp 6 rfl rfl) bw ((dF _)) (.here 7 rfl),fl (.tmp 7 rfl rfl) (bF).under (.here 8 rfl),bl,mv,trivial⟩ (.d8 (.lQ .z)) λa w hI=>?_
 refine wp_ret ?_
 exact ck hI rfl (.tmp 0 rfl)
theorem CT (h0:0<X.length) (hX:X.length<=1000000):∀(M:Nat->Nat->Prop) (w:World) (v0 v1:Value),cL M w->aO M (λw=>(aA 1 false X.length (λi=>aD (X.getD i []))) w v0) w->aO M (λw=>(tE 184 1 false (aA 1 false X.length (λi=>aD (X.getD i [])))) w v1) w->Calls Tryz.prog 201 #[v0,v1] w (bH M (pI (iT (λi=>((X.getD i []).length:Int) != ((X.getD 0 []).length:Int)) X.length)) w):=by
 intro M w0 v0 v1 hM hv0 eI
 refine eK (N:=19) Tryz.func201 rfl rfl rfl hM (show cF M w0 [v0,v1] [⟨none,none,0,aA 1 false X.length (λi=>aD (X.getD i []))⟩,⟨none,none,1,tE 184 1 false (aA 1 false X.length (λi=>aD (X.getD i [])))⟩]from⟨⟨rfl,_,rfl,hv0⟩,⟨rfl,_,rfl,eI⟩,trivial⟩) λa hI=>?_
 refine dU hI 1 [Uc 0 4 _] (.kk .z) ⟨mv,trivial⟩ (.bS .z) λa w hI=>?_
 refine wp_seq ?_
 refine dU hI 3 [Uc 0 6 _,Uc 1 7 (pI (X.length:Int)),Uc 2 8 _] (.bS .z) ⟨mv,fl (.tmp 3 rfl rfl) (aX).under (.here 4 rfl),mv,trivial⟩ (.cA (.kk .z)) λa w hI=>?_
 refine wp_block ?_
 refine dL (λ(k:Nat) a w=>(k<=X.length/\∀q,q<k->(((X.getD q []).length:Int) != ((X.getD 0 []).length:Int))=false)/\Inv ⟨19,w0,M,λ_=>False⟩ [] [] [⟨none,none,0,aA 1 false X.length (λi=>aD (X.getD i []))⟩,⟨none,none,1,tE 184 1 false (aA 1 false X.length (λi=>aD (X.getD i [])))⟩,⟨none,none,7,pI (X.length:Int)⟩,⟨none,none,8,pI (k:Int)⟩] none_ a w) (λ(k:Nat)=>X.length-k) (0) ⟨⟨Nat.zero_le _,λq hq=>by omega⟩,(hI.conv trivial ⟨⟨rfl,rfl,0,_,rfl,λ_ _ h=>h⟩,⟨rfl,rfl,1,_,rfl,λ_ _ h=>h⟩,⟨rfl,rfl,3,_,rfl,λ_ _ h=>h⟩,⟨rfl,rfl,4,_,rfl,(bk (by omega))⟩,trivial⟩)⟩ ?_
 intro k a w zo
 obtain⟨hp,hI⟩:=zo
 refine dU hI 1 [Uc 0 9 _] (.ah .z) ⟨bl,trivial⟩ (.ah (.k .z)) λa w hI=>?_
 refine wp_seq ?_
 refine dD hI 4 rfl (λht=>?_) (λht=>?_)
 ·have t1:=of_decide_eq_true ht
  refine wp_skip ?_
  refine ae ?_
  refine wp_seq ?_
  refine wp_block ?_
  refine dU hI 2 [Uc 0 10 _,Uc 1 5 _] (.ah (.k .z)) ⟨mv,mv,trivial⟩ (.ah (.bS .z)) λa w hI=>?_
  refine dU hI 6 [Uc 0 11 _,Uc 1 12 _,Uc 2 13 _,Uc 3 14 _,Uc 4 15 (aD (X.getD k [])),Uc 5 16 (pB (((X.getD k []).length:Int) != ((X.getD 0 []).length:Int)))] (.ah (.bS .z)) ⟨mv,mv,mv,Xi aX,dQ (.tmp 10 rfl rfl) bw ((dF _)) (.here 11 rfl),wG (λ_ _=>by kernel_rfl) (.tmp 7 rfl rfl) (.tmp 11 rfl rfl) (.here 12 rfl) (N7 h0 hX),trivial⟩ (.k8 (.ah (.k .z))) λa w hI=>?_
  refine dD hI 12 rfl (λht=>?_) (λht=>?_)
  ·have t2:=ht
   refine dU hI 2 [Uc 0 17 _,Uc 1 4 _] (.k8 (.ah (.k .z))) ⟨mv,mv,trivial⟩ (.k8 (.ah (.bS .z))) λa w hI=>?_
   refine wp_ret ?_
   refine bj ?_
   refine aB ?_
   refine aB ?_
   refine bj ?_
   refine aB ?_
   exact ck hI rfl (.imp (.tmp 14 rfl) (bk (ze (p:=λi=>((X.getD i []).length:Int) != ((X.getD 0 []).length:Int)) (by omega) t2 hp.2).symm))
  ·have t3:=ht
   refine wp_skip ?_
   refine aG ?_
   refine ae ?_
   refine ZS hI 2 [Uc 0 18 _,Uc 1 8 _] (.bS (.t 1 (.k8 (.k .z)))) ⟨bl,mv,trivial⟩ (.cA (.k8 (.bS .z))) λa w hI=>?_
   refine ae ?_
   exact⟨k+1,⟨⟨by omega,λq hq=>by rcases Nat.lt_or_ge q k with h|h; exact hp.2 q h; rw[show q=k by omega]; exact t3⟩,(hI.conv trivial ⟨⟨rfl,rfl,0,_,rfl,λ_ _ h=>h⟩,⟨rfl,rfl,1,_,rfl,λ_ _ h=>h⟩,⟨rfl,rfl,2,_,rfl,λ_ _ h=>h⟩,⟨rfl,rfl,13,_,rfl,(bk (by omega))⟩,trivial⟩)⟩,(show X.length-(k+1)<X.length-k by omega)⟩
 ·have t4:=of_decide_eq_false ht
  refine wp_exit ?_
  refine ak ?_
  refine ak ?_
  refine aH ?_
  refine ae ?_
  refine dU hI 1 [Uc 0 4 _] (.ah (.k .z)) ⟨mv,trivial⟩ (.bh (.dk .z)) λa w hI=>?_
  refine wp_ret ?_
  exact ck hI rfl (.imp (.tmp 0 rfl) (bk (vW (λj hj=>hp.2 j (by omega))).symm))
theorem xG (h0:0<X.length) (hX:X.length<=1000000):∀(M:Nat->Nat->Prop) (w:World) (v0 v1:Value),cL M w->aO M (λw=>(aA 1 false X.length (λi=>aD (X.getD i []))) w v0) w->aO M (λw=>(tE 184 1 false (aA 1 false X.length (λi=>aD (X.getD i [])))) w v1) w->Calls Tryz.prog 183 #[v0,v1] w (bH M (pB (decide ((iT (λi=>((X.getD i []).length:Int) != ((X.getD 0 []).length:Int)) X.length)>=(0:Int)))) w):=by
 intro M w0 v0 v1 hM hv0 eI
 refine eK (N:=9) Tryz.func183 rfl rfl rfl hM (show cF M w0 [v0,v1] [⟨none,none,0,aA 1 false X.length (λi=>aD (X.getD i []))⟩,⟨none,none,1,tE 184 1 false (aA 1 false X.length (λi=>aD (X.getD i [])))⟩]from⟨⟨rfl,_,rfl,hv0⟩,⟨rfl,_,rfl,eI⟩,trivial⟩) λa hI=>?_
 refine dU hI 1 [Uc 0 4 _] (.kk .z) ⟨mv,trivial⟩ (.bS .z) λa w hI=>?_
 refine dU hI 5 [Uc 0 5 _,Uc 1 6 _,Uc 2 7 _,Uc 3 8 _,Uc 4 4 _] (.kk (.t 4 .z)) ⟨mv,mv,XL (CT h0 hX),bl,mv,trivial⟩ (.bh (.dw .z)) λa w hI=>?_
 refine wp_ret ?_
 exact ck hI rfl (.tmp 0 rfl)
structure wZ (X:List (List Rat)):Prop where
 rows:0<X.length/\X.length<=8
 US:0<(X.getD 0 []).length/\(X.getD 0 []).length<=8
 ZP:∀i,i<X.length->(X.getD i []).length=(X.getD 0 []).length
theorem wZ.no (h:wZ X):iT (λi=>((X.getD i []).length:Int) != ((X.getD 0 []).length:Int)) X.length = -1:=vW λj hj=>by rw[h.ZP j hj]; simp
theorem G4 (hR:wZ X):∀(M:Nat->Nat->Prop) (w:World) (v0:Value),cL M w->aO M (λw=>(aA 1 false X.length (λi=>aD (X.getD i []))) w v0) w->Calls Tryz.prog 160 #[v0] w (bH M (pI 0) w):=by
 intro M w0 v0 hM hv0
 have h0:=hR.rows
 have h0':=hR.US
 have h0'':=hR.no
 have h0:=hR.rows.1
 have hX:=hR.rows.2
 refine eK (N:=28) Tryz.func160 rfl rfl rfl hM (show cF M w0 [v0] [⟨none,none,0,aA 1 false X.length (λi=>aD (X.getD i []))⟩]from⟨⟨rfl,_,rfl,hv0⟩,trivial⟩) λa hI=>?_
 refine lA hI 2 [⟨1,1,some 0,none,.ptr,152,1,false,pv (aA 1 false X.length (λi=>aD (X.getD i []))),[]⟩] [] [Uc 1 2 _] .z (.k .z) ⟨wE 0 rfl rfl (by kernel_rfl) (by kernel_rfl) rfl rfl rfl (.tmp 0 rfl rfl) (uu) rfl,mv,trivial⟩ (.k .z) (.dk .z) λa w hI=>?_
 refine wp_seq ?_
 refine lA hI 22 [] [] [Uc 0 3 (aA 1 false X.length (λi=>aD (X.getD i []))),Uc 1 4 (pI (X.length:Int)),Uc 2 5 (pB false),Uc 3 6 _,Uc 4 7 (aA 1 false X.length (λi=>aD (X.getD i []))),Uc 5 8 (pI (X.length:Int)),Uc 6 9 (pB false),Uc 7 10 (pB false),Uc 8 11 _,Uc 9 12 (aA 1 false X.length (λi=>aD (X.getD i []))),Uc 10 13 _,Uc 11 14 (aD (X.getD 0 [])),Uc 12 15 (pI ((X.getD 0 []).length:Int)),Uc 13 16 (pB false),Uc 14 17 (pB false),Uc 15 18 _,Uc 16 19 (aA 1 false X.length (λi=>aD (X.getD i []))),Uc 17 20 _,Uc 18 21 (aD (X.getD 0 [])),Uc 19 22 (pI ((X.getD 0 []).length:Int)),Uc 20 23 (pB false),Uc 21 24 (pB false)] (.k .z) (.k .z) ⟨eW 0 rfl rfl rfl rfl (by kernel_rfl) r6 rfl (.here 1 rfl),fl (.tmp 1 rfl rfl) (aX).under (.here 2 rfl),dJ (v:=.bool (decide ((X.length:Int)<(1:Int)))) (.tmp 2 rfl rfl) (.const _) (λ_=>rfl) (.at_ 3 _ _ rfl (gw ((decide_eq_false (by omega))))),mv,ye (eW 0 rfl rfl rfl rfl (by kernel_rfl) r6 rfl (.here 5 rfl)),ye (fl (.tmp 5 rfl rfl) (aX).under (.here 6 rfl)),ye (dJ (v:=.bool (decide ((X.length:Int)>(8:Int)))) (.tmp 6 rfl rfl) (.const _) (λ_=>rfl) (.at_ 7 _ _ rfl (gw ((decide_eq_false (by omega)))))),uS (b:=false) (.tmp 4 rfl rfl) (λh=>by cases h) (λ_=>(.tmp 7 rfl rfl)) (.here 8 rfl),mv,ye (eW 0 rfl rfl rfl rfl (by kernel_rfl) r6 rfl (.here 10 rfl)),ye (Zo aX),ye (dQ (.tmp 11 rfl rfl) bw ((dF _)) (.here 12 rfl)),ye (fl (.tmp 12 rfl rfl) (bF).under (.here 13 rfl)),ye (dJ (v:=.bool (decide (((X.getD 0 []).length:Int)<(1:Int)))) (.tmp 13 rfl rfl) (.const _) (λ_=>rfl) (.at_ 14 _ _ rfl (gw ((decide_eq_false (by omega)))))),uS (b:=false) (.tmp 9 rfl rfl) (λh=>by cases h) (λ_=>(.tmp 14 rfl rfl)) (.here 15 rfl),mv,ye (eW 0 rfl rfl rfl rfl (by kernel_rfl) r6 rfl (.here 17 rfl)),ye (Zo aX),ye (dQ (.tmp 18 rfl rfl) bw ((dF _)) (.here 19 rfl)),ye (fl (.tmp 19 rfl rfl) (bF).under (.here 20 rfl)),ye (dJ (v:=.bool (decide (((X.getD 0 []).length:Int)>(8:Int)))) (.tmp 20 rfl rfl) (.const _) (λ_=>rfl) (.at_ 21 _ _ rfl (gw ((decide_eq_false (by omega)))))),uS (b:=false) (.tmp 16 rfl rfl) (λh=>by cases h) (λ_=>(.tmp 21 rfl rfl)) (.here 22 rfl),trivial⟩ (.k .z) (.dx (.d8 (.d8 (.lQ .z)))) λa w hI=>?_
 refine kM hI 1 rfl ?_
 refine wp_skip ?_
 refine ae ?_
 refine wp_seq ?_
 obtain⟨p1,hI⟩:=hI.KE 0 rfl rfl rfl
 refine lA hI 3 [] [] [Uc 0 25 (aA 1 false X.length (λi=>aD (X.getD i []))),Uc 1 26 (bg (.func (.func 184) #[] #[.pointer (some ⟨p1,0,none⟩)])),Uc 2 27 (pB false)] (.k .z) (.bS .z) ⟨eW 0 rfl rfl rfl rfl (by kernel_rfl) r6 rfl (.here 3 rfl),uR (.tmp 0 rfl rfl) (.here 4 rfl),Mz (λ_ _=>by kernel_rfl) 0 rfl rfl rfl (by kernel_rfl) rfl (.tmp 0 rfl rfl) (.tmp 3 rfl rfl) (.tmp 4 rfl rfl) (bU _) (.at_ 5 _ _ rfl (gw ((decide_eq_false (by omega))))) (xG h0 (by omega)),trivial⟩ (.k .z) (.LC (.dk .z)) λa w hI=>?_
 refine kM hI 1 rfl ?_
 refine wp_skip ?_
 refine ae ?_
 refine lA hI 1 [] [] [Uc 0 2 _] (.k .z) (.t 0 (.k .z)) ⟨mv,trivial⟩ (.k .z) (.lQ .z) λa w hI=>?_
 refine wp_ret ?_
 exact ck hI rfl (.tmp 0 rfl)
theorem xd (hR:wZ X) (hS:(X.getD 0 []).length=X.length):∀(M:Nat->Nat->Prop) (w:World) (v0:Value),cL M w->aO M (λw=>(aA 1 false X.length (λi=>aD (X.getD i []))) w v0) w->Calls Tryz.prog 113 #[v0] w (bH M (pI 0) w):=by
 intro M w0 v0 hM hv0
 have h0:=hR.rows
 have h0':=hR.US
 refine eK (N:=16) Tryz.func113 rfl rfl rfl hM (show cF M w0 [v0] [⟨none,none,0,aA 1 false X.length (λi=>aD (X.getD i []))⟩]from⟨⟨rfl,_,rfl,hv0⟩,trivial⟩) λa hI=>?_
 refine dU hI 1 [Uc 0 2 _] (.k .z) ⟨mv,trivial⟩ (.kk .z) λa w hI=>?_
 refine wp_seq ?_
 refine dU hI 3 [Uc 0 4 _,Uc 1 5 _,Uc 2 3 _] (.kk .z) ⟨mv,WT (G4 hR),mv,trivial⟩ (.dI (.k .z)) λa w hI=>?_
 refine dU hI 2 [Uc 0 6 _,Uc 1 7 (pB false)] (.bS .z) ⟨mv,dJ (v:=.bool (false)) (.tmp 3 rfl rfl) (.const _) (λ_=>rfl) (.here 4 rfl),trivial⟩ (.cA (.k .z)) λa w hI=>?_
 refine kM hI 3 rfl ?_
 refine wp_skip ?_
 refine ae ?_
 refine wp_seq ?_
 refine dU hI 7 [Uc 0 9 _,Uc 1 10 (pI (X.length:Int)),Uc 2 11 _,Uc 3 12 _,Uc 4 13 (aD (X.getD 0 [])),Uc 5 14 (pI ((X.getD 0 []).length:Int)),Uc 6 15 (pB false)] (.ah .z) ⟨mv,fl (.tmp 4 rfl rfl) (aX).under (.here 5 rfl),mv,Zo aX,dQ (.tmp 7 rfl rfl) bw ((dF _)) (.here 8 rfl),fl (.tmp 8 rfl rfl) (bF).under (.here 9 rfl),dJ (v:=.bool (((X.length:Int) != ((X.getD 0 []).length:Int)))) (.tmp 5 rfl rfl) (.tmp 9 rfl rfl) (λ_=>rfl) (.at_ 10 _ _ rfl (gw ((by rw[hS]; exact bne_self_eq_false _)))),trivial⟩ (.LC (.bh (.lQ .z))) λa w hI=>?_
 refine kM hI 1 rfl ?_
 refine wp_skip ?_
 refine ae ?_
 refine dU hI 1 [Uc 0 2 _] (.t 0 (.k .z)) ⟨mv,trivial⟩ (.lQ .z) λa w hI=>?_
 refine wp_ret ?_
 exact ck hI rfl (.tmp 0 rfl)
end Wx

namespace Wx
attribute [local irreducible] OpOk
set_option maxRecDepth 100000
open Go Go.RowKit Go.Proofs
set_option linter.unusedVariables false
structure BI where
 k:Nat
 R:List ct
 H:List Bk
theorem Ob {A:List (List Rat)} {j:Nat} (h0:0<A.length) (hA:A.length<=1000000) (hn:(A.getD 0 []).length<=1000000) (hr:∀i,i<A.length->(A.getD i []).length=(A.getD 0 []).length) (hb:∀i k,aZ j ((A.getD i []).getD k 0)):∀(M:Nat->Nat->Prop) (w:World) (v0:Value),cL M w->aO M (λw=>(aA 1 false A.length (λi=>aD (A.getD i []))) w v0) w->Calls Tryz.prog 163 #[v0] w (bH M (aA 1 false (A.getD 0 []).length (λi=>aD ((Cx A).getD i []))) w):=by
 intro M w0 v0 hM hv0
 refine dr (N:=39) Tryz.func163 rfl rfl rfl hM (show cF M w0 [v0] [⟨none,none,0,aA 1 false A.length (λi=>aD (A.getD i []))⟩]from⟨⟨rfl,_,rfl,hv0⟩,trivial⟩) λa hI=>?_
 refine dU hI 1 [Uc 0 2 _] (.k .z) ⟨mv,trivial⟩ (.kk .z) λa w hI=>?_
 refine Jf hI [⟨11,11,some 4,none,.obj,0,0,false,P1 1 false (A.getD 0 []).length (uD (.slice none 0 0)),[]⟩] [] [⟨some 0,none,7,aA 1 false A.length (λi=>aD (A.getD i []))⟩,⟨some 1,none,8,cZ 1 false (aD (A.getD 0 []))⟩,⟨some 2,none,9,aD (A.getD 0 [])⟩,⟨some 3,none,10,pI ((A.getD 0 []).length:Int)⟩] .z (.kk .z) rfl [0,1,3,7,15,31] 5 (by kernel_rfl) ?_ (.k .z) (.dI (.dd .z)) (λa w hI=>hI.PU 0 rfl (by kernel_rfl)) (⟨_,Oo λl hC a w hI=>ru hI [] [⟨some 0,none,3,bg (.slice (some ⟨l,0,none⟩) ((A.getD 0 []).length) ((A.getD 0 []).length))⟩] (.k .z) (.bS .z) (by kernel_rfl) (ej (.tmp 0 rfl rfl) (.here 3 rfl)) (.k .z) (.mw .z),
   rfl⟩) ?_
 ·exact⟨aW (.tmp 0 rfl rfl) (.here 2 rfl),jk (.tmp 2 rfl rfl) (.const _) aX (by omega) (by omega) (by kernel_rfl) (.here 3 rfl),dQ (.tmp 3 rfl rfl) bw ((dF _)) (.here 4 rfl),fl (.tmp 4 rfl rfl) (bF).under (.here 5 rfl),A7 (zv:=.slice none 0 0) (z:=[.slice none 0 0]) 0 rfl rfl rfl rfl rfl (by kernel_rfl) (.tmp 5 rfl rfl) (.tmp 5 rfl rfl) (aX).under (by kernel_rfl) rfl rfl (by omega) (λu hu=>by rw[List.mem_singleton.1 hu]; exact ee _ _ _) (λ_=>rfl) (by omega) (.none (by kernel_rfl)),trivial⟩
 ·rintro a w ⟨g,hC,hI⟩
  have hC:True:=hC
  refine wp_seq ?_
  refine lA hI 3 [] [] [Uc 0 12 _,Uc 1 13 (pI ((A.getD 0 []).length:Int)),Uc 2 14 _] (.k .z) (.bS .z) ⟨mv,mI (.tmp 3 rfl rfl) (aX).under (.here 4 rfl),mv,trivial⟩ (.k .z) (.cA (.kk .z)) λa w hI=>?_
  refine wp_block ?_
  refine dL (λ(q:BI) a w=>(q.k<=(A.getD 0 []).length/\gD g (A.getD 0 []).length q.R (mX A (A.getD 0 []).length q.k 0) q.H)/\Inv ⟨39,w0,M,λ_=>False⟩ [⟨11,11,none,none,.obj,0,0,false,wJ q.H,[]⟩] [] [⟨none,none,0,aA 1 false A.length (λi=>aD (A.getD i []))⟩,⟨none,none,2,bg ((Value.slice none 0 0))⟩,⟨none,none,3,bg (.slice (some ⟨g,0,none⟩) ((A.getD 0 []).length) ((A.getD 0 []).length))⟩,⟨none,none,13,pI ((A.getD 0 []).length:Int)⟩,⟨none,none,14,pI (q.k:Int)⟩] none_ a w) (λ(q:BI)=>(A.getD 0 []).length-q.k) (⟨0,List.replicate (A.getD 0 []).length ⟨0,0,0⟩,[⟨g,1,false,List.replicate (A.getD 0 []).length (uD (.slice none 0 0))⟩]⟩) ⟨⟨Nat.zero_le _,by have h:=Rk g (A.getD 0 []).length; rw[<-Lr (A:=A)]at h; exact h⟩,(hI.conv ⟨⟨0,_,_,rfl,⟨rfl,rfl,rfl⟩,rfl,λ_=>(λ_ _ h=>h)⟩,trivial⟩ ⟨⟨rfl,rfl,0,_,rfl,λ_ _ h=>h⟩,⟨rfl,rfl,1,_,rfl,λ_ _ h=>h⟩,⟨rfl,rfl,2,_,rfl,λ_ _ h=>h⟩,⟨rfl,rfl,3,_,rfl,λ_ _ h=>h⟩,⟨rfl,rfl,4,_,rfl,(bk rfl)⟩,trivial⟩)⟩ ?_
  intro q a w zo
  obtain⟨⟨hk,hB⟩,hI⟩:=zo
  refine lA hI 1 [] [] [Uc 0 15 _] (.k .z) (.ah (.k .z)) ⟨bl,trivial⟩ (.k .z) (.ah (.kk .z)) λa w hI=>?_
  refine wp_seq ?_
  refine dD hI 5 rfl (λht=>?_) (λht=>?_)
  ·have t1:=of_decide_eq_true ht
   refine wp_skip ?_
   refine ae ?_
   refine wp_seq ?_
   refine wp_block ?_
   refine lA hI 2 [] [] [Uc 0 16 _,Uc 1 4 _] (.k .z) (.ah (.kk .z)) ⟨mv,mv,trivial⟩ (.k .z) (.ah (.nh .z)) λa w hI=>?_
   refine lA hI 3 [] [] [Uc 0 17 _,Uc 1 18 (pI (A.length:Int)),Uc 2 19 _] (.k .z) (.ah (.kk .z)) ⟨mv,fl (.tmp 6 rfl rfl) (aX).under (.here 7 rfl),mv,trivial⟩ (.k .z) (.k8 (.k .z)) λa w hI=>?_
   refine wp_block ?_
   refine dL (λ(q2:BI) a w=>(q2.k<=A.length/\gD g (A.getD 0 []).length q2.R (mX A (A.getD 0 []).length q.k q2.k) q2.H)/\Inv ⟨39,w0,M,λ_=>False⟩ [⟨11,11,none,none,.obj,0,0,false,wJ q2.H,[]⟩] [] [⟨none,none,0,aA 1 false A.length (λi=>aD (A.getD i []))⟩,⟨none,none,2,bg ((Value.slice none 0 0))⟩,⟨none,none,3,bg (.slice (some ⟨g,0,none⟩) ((A.getD 0 []).length) ((A.getD 0 []).length))⟩,⟨none,none,13,pI ((A.getD 0 []).length:Int)⟩,⟨none,none,14,pI (q.k:Int)⟩,⟨none,none,4,pI (q.k:Int)⟩,⟨none,none,17,aA 1 false A.length (λi=>aD (A.getD i []))⟩,⟨none,none,18,pI (A.length:Int)⟩,⟨none,none,19,pI (q2.k:Int)⟩] none_ a w) (λ(q2:BI)=>A.length-q2.k) (⟨0,q.R,q.H⟩) ⟨⟨Nat.zero_le _,hB⟩,(hI.conv ⟨⟨0,_,_,rfl,⟨rfl,rfl,rfl⟩,rfl,λ_=>(λ_ _ h=>h)⟩,trivial⟩ ⟨⟨rfl,rfl,0,_,rfl,λ_ _ h=>h⟩,⟨rfl,rfl,1,_,rfl,λ_ _ h=>h⟩,⟨rfl,rfl,2,_,rfl,λ_ _ h=>h⟩,⟨rfl,rfl,3,_,rfl,λ_ _ h=>h⟩,⟨rfl,rfl,4,_,rfl,λ_ _ h=>h⟩,⟨rfl,rfl,5,_,rfl,λ_ _ h=>h⟩,⟨rfl,rfl,6,_,rfl,λ_ _ h=>h⟩,⟨rfl,rfl,7,_,rfl,λ_ _ h=>h⟩,⟨rfl,rfl,8,_,rfl,(bk rfl)⟩,trivial⟩)⟩ ?_
   intro q2 a w zo
   obtain⟨⟨hk2,TD⟩,hI⟩:=zo
   refine lA hI 1 [] [] [Uc 0 20 _] (.k .z) (.k8 (.k .z)) ⟨bl,trivial⟩ (.k .z) (.k8 (.kk .z)) λa w hI=>?_
   refine wp_seq ?_
   refine dD hI 9 rfl (λht=>?_) (λht=>?_)
   ·have t2:=of_decide_eq_true ht
    refine wp_skip ?_
    refine ae ?_
    refine wp_seq ?_
    refine wp_block ?_
    refine lA hI 3 [] [] [Uc 0 21 _,Uc 1 22 (aD (A.getD q2.k [])),Uc 2 6 _] (.k .z) (.k8 (.kk .z)) ⟨Xi aX,dQ (.tmp 10 rfl rfl) bw ((dF _)) (.here 11 rfl),mv,trivial⟩ (.k .z) (.k8 (.dx (.k .z))) λa w hI=>?_
    have hl:=hr q2.k (by omega)
    refine Je hI [⟨34,34,some 11,none,.obj,0,0,false,Sz q2.H (qM (rowAt q2.R q.k)) ((mX A (A.getD 0 []).length q.k q2.k).getD q.k []) [(A.getD q2.k []).getD q.k 0],[]⟩] [] [⟨some 0,none,23,bg (.slice (some ⟨g,0,none⟩) ((A.getD 0 []).length) ((A.getD 0 []).length))⟩,⟨some 1,none,24,pI (q.k:Int)⟩,⟨some 2,none,25,bg (.slice (some ⟨g,0,none⟩) ((A.getD 0 []).length) ((A.getD 0 []).length))⟩,⟨some 3,none,26,pI (q.k:Int)⟩,⟨some 4,none,27,bg (.pointer (some ⟨g,0+((q.k:Int)).toNat*1,none⟩))⟩,⟨some 5,none,28,bg (qM (rowAt q2.R q.k))⟩,⟨some 6,none,29,aD (A.getD q2.k [])⟩,⟨some 7,none,30,pI (q.k:Int)⟩,⟨some 8,none,31,cZ 3 true (au ((A.getD q2.k []).getD q.k 0))⟩,⟨some 9,none,32,au ((A.getD q2.k []).getD q.k 0)⟩,⟨some 10,none,33,aD ([(A.getD q2.k []).getD q.k 0])⟩] (.u (some 11) [] .z) (.k8 (.kk .z)) rfl [0,0,0,0,12,28,0,0,192,448,960,2044,4095,8191] 12 (by kernel_rfl) ?_ (.d (.k .z)) (.k8 (.oM (.d8 (.d .z)))) (λa w hI=>hI.KD 0 rfl (by kernel_rfl)) (⟨_,Oo λl hC a w hI=>ru hI [] [⟨some 0,none,35,bg (.pointer (some ⟨g,0+((q.k:Int)).toNat*1,none⟩))⟩] (.k .z) (.k8 (.ah .z)) (by kernel_rfl) (bt (.tmp 10 rfl rfl) (.tmp 11 rfl rfl) aX (by omega) (by omega) (by kernel_rfl) (.here 12 rfl)) (.k .z) (.k8 (.dI (.k .z))),
      _,Oo λl hC a w hI=>ru hI [] [] (.u none [(0,wJ (gH (appH q2.H l.b (bq ((mX A (A.getD 0 []).length q.k q2.k).getD q.k []++[(A.getD q2.k []).getD q.k 0]) l.cap)) g q.k (uD l.hdr)))] .z) (.k8 (.bS .z)) (by kernel_rfl) (kA (e:=⟨g,1,false,jn q2.R⟩) (idx:=q.k) (it:=uD l.hdr) 0 rfl rfl rfl (by kernel_rfl) 0 rfl (by kernel_rfl) (by kernel_rfl) rfl (.tmp 10 rfl rfl) (jS TD.top (TD.off (by omega) hC.2.2.2)) rfl (by rw[r4]; have:=TD.len.1; omega) (show 0+((q.k:Int)).toNat*1=q.k*1 by omega) bw (.tmp 0 rfl rfl) (iU _ _ _)) (.s .o .z) (.mw (.ah (.kkd .z))),
      rfl⟩) ?_
    ·exact⟨aW (.tmp 2 rfl rfl) (.here 10 rfl),aW (.tmp 5 rfl rfl) (.here 11 rfl),aW (.tmp 2 rfl rfl) (.here 12 rfl),aW (.tmp 5 rfl rfl) (.here 13 rfl),bt (.tmp 12 rfl rfl) (.tmp 13 rfl rfl) aX (by omega) (by omega) (by kernel_rfl) (.here 14 rfl),dA (e:=⟨g,1,false,jn q2.R⟩) (idx:=q.k) 0 rfl rfl rfl (by kernel_rfl) rfl (.tmp 14 rfl rfl) TD.top rfl (rZ (by have:=TD.len.1; omega)) (show 0+((q.k:Int)).toNat*1=q.k*1 by omega) bw (.here 15 rfl),aW (.tmp 9 rfl rfl) (.here 16 rfl),aW (.tmp 5 rfl rfl) (.here 17 rfl),jk (.tmp 16 rfl rfl) (.tmp 17 rfl rfl) bF (by omega) (by omega) (by kernel_rfl) (.at_ 18 _ _ rfl (by rw[Int.toNat_natCast]; exactλ_ _ h=>h)),dQ (.tmp 18 rfl rfl) bY (cV _) (.here 19 rfl),iF (fs:=List.replicate 1 ⟨true,3,au 0⟩) (ps:=[(0,au ((A.getD q2.k []).getD q.k 0))]) (gs:=[(A.getD q2.k []).getD q.k 0].map λq=>⟨true,3,au q⟩) bF pc rfl rfl rfl (λw=>ew w) rfl (show dy _ _ _ _ _ _ from⟨⟨rfl,(.tmp 19 rfl rfl),_,rfl,cV _⟩,trivial⟩) rfl (λi=>au ([(A.getD q2.k []).getD q.k 0].getD i 0)) (KP _) (.here 20 rfl),zP 0 rfl rfl rfl rfl (by kernel_rfl) rfl 1 rfl rfl rfl rfl rfl (by kernel_rfl) (.tmp 15 rfl rfl) (.tmp 20 rfl rfl) (TD.case (by omega)) sX Nat.one_pos (by rw[yP (by omega),if_neg (Nat.lt_irrefl _),if_pos rfl,List.length_take]; show _+1<=_; omega) (.none (by kernel_rfl)),trivial⟩
    ·rintro a w ⟨l,hC,hI⟩
     have hC:Bn q2.H (qM (rowAt q2.R q.k)) ((mX A (A.getD 0 []).length q.k q2.k).getD q.k []) [(A.getD q2.k []).getD q.k 0] l:=hC
     refine aG ?_
     refine ae ?_
     refine Qq hI 2 [] [] [Uc 0 36 _,Uc 1 19 _] (.k .z) (.k8 (.t 1 .z)) ⟨bl,mv,trivial⟩ (.k .z) (.k8 (.lQ .z)) λa w hI=>?_
     refine ae ?_
     replace hI:=hI.Ui 11 11 (n0:=0) rfl (by kernel_rfl) (by kernel_rfl)
     exact⟨⟨q2.k+1,q2.R.set q.k l,gH (appH q2.H l.b (bq ((mX A (A.getD 0 []).length q.k q2.k).getD q.k []++[(A.getD q2.k []).getD q.k 0]) l.cap)) g q.k (uD l.hdr)⟩,⟨⟨by show q2.k+1<=A.length; omega,by have h:=TD.append (l':=[(A.getD q2.k []).getD q.k 0]) (by omega) Nat.one_pos hC; rw[Lq (by omega) (by omega)]at h; exact h⟩,(hI.conv ⟨⟨0,_,_,rfl,⟨rfl,rfl,rfl⟩,rfl,λ_=>λ_ _ h=>h⟩,trivial⟩ ⟨⟨rfl,rfl,0,_,rfl,λ_ _ h=>h⟩,⟨rfl,rfl,1,_,rfl,λ_ _ h=>h⟩,⟨rfl,rfl,2,_,rfl,λ_ _ h=>h⟩,⟨rfl,rfl,3,_,rfl,λ_ _ h=>h⟩,⟨rfl,rfl,4,_,rfl,λ_ _ h=>h⟩,⟨rfl,rfl,5,_,rfl,λ_ _ h=>h⟩,⟨rfl,rfl,6,_,rfl,λ_ _ h=>h⟩,⟨rfl,rfl,7,_,rfl,λ_ _ h=>h⟩,⟨rfl,rfl,8,_,rfl,(bk (by show((q2.k:Int)+1)=((q2.k+1:Nat):Int); omega))⟩,trivial⟩)⟩,(show A.length-(q2.k+1)<A.length-q2.k by omega)⟩
   ·have t3:=of_decide_eq_false ht
    refine wp_exit ?_
    refine ak ?_
    refine ak ?_
    refine aH ?_
    refine aG ?_
    refine ae ?_
    refine Qq hI 2 [] [] [Uc 0 37 _,Uc 1 14 _] (.k .z) (.ah (.t 1 (.ah (.k .z)))) ⟨bl,mv,trivial⟩ (.k .z) (.ah (.bh (.dw .z))) λa w hI=>?_
    refine ae ?_
    exact⟨⟨q.k+1,q2.R,q2.H⟩,⟨⟨by show q.k+1<=(A.getD 0 []).length; omega,by have h:=TD; rw[show q2.k=A.length by omega,Lp]at h; exact h⟩,(hI.conv ⟨⟨0,_,_,rfl,⟨rfl,rfl,rfl⟩,rfl,λ_=>λ_ _ h=>h⟩,trivial⟩ ⟨⟨rfl,rfl,0,_,rfl,λ_ _ h=>h⟩,⟨rfl,rfl,1,_,rfl,λ_ _ h=>h⟩,⟨rfl,rfl,2,_,rfl,λ_ _ h=>h⟩,⟨rfl,rfl,3,_,rfl,λ_ _ h=>h⟩,⟨rfl,rfl,4,_,rfl,(bk (by show((q.k:Int)+1)=((q.k+1:Nat):Int); omega))⟩,trivial⟩)⟩,(show(A.getD 0 []).length-(q.k+1)<(A.getD 0 []).length-q.k by omega)⟩
  ·have t4:=of_decide_eq_false ht
   refine wp_exit ?_
   refine ak ?_
   refine ak ?_
   refine aH ?_
   refine ae ?_
   refine lA hI 2 [] [] [Uc 0 38 _,Uc 1 2 _] (.k .z) (.k (.t 1 (.ah .z))) ⟨mv,mv,trivial⟩ (.k .z) (.bh (.dw .z)) λa w hI=>?_
   refine wp_ret ?_
   exact RA hI rfl (n0:=0) rfl (.tmp 0 rfl) (λB w hH=>by have h:=hB.read (cap:=(A.getD 0 []).length) (Nat.le_refl _) (by unfold maxLen; omega) (λi hi=>by rw[yP hi,if_pos (by omega),vT]; omega) B w hH; rw[show q.k=(A.getD 0 []).length by omega,N4]at h; exact h)
end Wx
