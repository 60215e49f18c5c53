import Derived.Test.YtocboimkilkklaaGreatJRF42
namespace Wx
attribute [local irreducible] OpOk
set_option maxRecDepth 100000
open Go Go.RowKit Go.Proofs
set_option linter.unusedVariables false
variable {l:List Rat} {j:Nat}
theorem Oe (h0:0<l.length) (hn:l.length<=1000000000) (hb:∀x∈l,bg j x) (hj:j+j<=100000000):∀(M:Nat->Nat->Prop) (w:World) (v0 v1:Value),dc M w->aL M (λw=>(nh l) w v0) w->aL M (λw=>(cI (.func (.func 46) #[] #[])) w v1) w->Calls Tryz.prog 117 #[v0,v1] w (bu M (au (eH l l.length)) w):=by
 intro M w0 v0 v1 hM hv0 gb
 refine aQ (N:=33) Tryz.func117 rfl rfl rfl hM (show ck M w0 [v0,v1] [⟨none,none,0,nh l⟩,⟨none,none,1,cI (.func (.func 46) #[] #[])⟩]from⟨⟨rfl,_,rfl,hv0⟩,⟨rfl,_,rfl,gb⟩,trivial⟩) λa hI=>?_
 refine jb hI 1 [⟨4,4,some 0,none,.ptr,32,3,true,pv (au 0),[]⟩] [] [] .z (.kk .z) ⟨bp 0 rfl rfl (by kernel_rfl) (by kernel_rfl) rfl rfl rfl gp rfl rfl (by simp[fq]) rfl (λw=>cF w),trivial⟩ (.k .z) (.kk .z) λa w hI=>?_
 refine wp_seq ?_
 refine jb hI 3 [] [] [Uc 0 7 _,Uc 1 8 (pI (l.length:Int)),Uc 2 9 (pB false)] (.k .z) (.kk .z) ⟨mv,uN (.tmp 2 rfl rfl) (dU).under (.here 3 rfl),gg (v:=.bool (decide ((l.length:Int)<(1:Int)))) (.tmp 3 rfl rfl) (.const _) (λ_=>rfl) (.at_ 4 _ _ rfl (jT (decide_eq_false (by omega)))),trivial⟩ (.k .z) (.gX (.k .z)) λa w hI=>?_
 refine sN hI 2 rfl ?_
 refine wp_skip ?_
 refine aj ?_
 refine jb hI 5 [⟨5,5,some 3,none,.ptr,32,3,true,pv (au 0),[(4,pv (au (l.getD 0 0)))]⟩] [] [Uc 0 11 _,Uc 1 12 _,Uc 2 13 (au (l.getD 0 0))] (.k .z) (.fS .z) ⟨mv,Xq dU,jz (.tmp 4 rfl rfl) av (aN _) (.here 5 rfl),bp 1 rfl rfl (by kernel_rfl) (by kernel_rfl) rfl rfl rfl gp rfl rfl (by simp[fq]) rfl (λw=>cF w),aS 1 rfl rfl rfl rfl 0 rfl (by kernel_rfl) (by kernel_rfl) av (.tmp 5 rfl rfl) (aN _),trivial⟩ (.k (.s .o .z)) (.gX (.dd .z)) λa w hI=>?_
 refine wp_seq ?_
 refine jb hI 1 [] [] [Uc 0 6 _] (.k (.k .z)) (.kk .z) ⟨mv,trivial⟩ (.k (.k .z)) (.fS .z) λa w hI=>?_
 refine wp_block ?_
 refine vR (λ(k:Nat) a w=>(1<=k/\k<=l.length)/\Inv ⟨33,w0,M,λ_=>False⟩ [⟨4,4,none,none,.ptr,32,3,true,pv (au 0),[]⟩,⟨5,5,none,none,.ptr,32,3,true,pv (au (eH l k)),[]⟩] [] [⟨none,none,0,nh l⟩,⟨none,none,1,cI (.func (.func 46) #[] #[])⟩,⟨none,none,6,pI (k:Int)⟩] none_ a w) (λ(k:Nat)=>l.length-k) (1) ⟨⟨Nat.le_refl _,h0⟩,(hI.conv ⟨⟨0,_,_,rfl,⟨rfl,rfl,rfl⟩,rfl,λ_=>λ_ _ h=>h⟩,⟨1,_,_,rfl,⟨rfl,rfl,rfl⟩,rfl,λ_=>(jU (FX l).symm)⟩,trivial⟩ ⟨⟨rfl,rfl,0,_,rfl,λ_ _ h=>h⟩,⟨rfl,rfl,1,_,rfl,λ_ _ h=>h⟩,⟨rfl,rfl,2,_,rfl,(fl (by omega))⟩,trivial⟩)⟩ ?_
 intro k a w Ub
 obtain⟨hp,hI⟩:=Ub
 refine wp_seq ?_
 refine jb hI 4 [] [] [Uc 0 14 _,Uc 1 15 _,Uc 2 16 (pI (l.length:Int)),Uc 3 17 _] (.k (.k .z)) (.fS .z) ⟨mv,mv,uN (.tmp 4 rfl rfl) (dU).under (.here 5 rfl),bl,trivial⟩ (.k (.k .z)) (.aK (.fS .z)) λa w hI=>?_
 refine ik hI 6 rfl (λht=>?_) (λht=>?_)
 ·have t1:=of_decide_eq_true ht
  refine wp_skip ?_
  refine aj ?_
  refine wp_seq ?_
  refine wp_block ?_
  refine BA hI [0,0,0,6,14,0,63,127] [] [] [Uc 0 20 _,Uc 1 21 _,Uc 2 22 _,Uc 3 23 _,Uc 4 24 (au (l.getD k 0)),Uc 5 25 (au (eH l k)),Uc 6 26 (pI (fR (l.getD k 0) (eH l k))),Uc 7 27 _] (.k (.k .z)) (.aK (.fS .z)) ⟨mv,mv,mv,S8 dU,jz (.tmp 10 rfl rfl) av (aN _) (.here 11 rfl),bG 1 rfl rfl rfl rfl (by kernel_rfl) av rfl (.here 12 rfl),xJ (λ_ _=>by kernel_rfl) (.tmp 7 rfl rfl) (.tmp 11 rfl rfl) (.tmp 12 rfl rfl) (.here 13 rfl) (Qs (bz _) (DC (nI hb (by omega)) (tF hb h0 _ (by omega)) (by omega))),bl,trivial⟩ (.k (.k .z)) (.k8 (.aK (.fS .z))) λa w hI=>?_
  refine ik hI 14 rfl (λht=>?_) (λht=>?_)
  ·have t2:=of_decide_eq_true ht
   refine Qd hI 5 [] [] [Uc 0 28 _,Uc 1 29 _,Uc 2 30 _,Uc 3 31 (au (l.getD k 0))] (.k (.u none [(4,pv (au (l.getD k 0)))] .z)) (.k8 (.aK (.fS .z))) ⟨mv,mv,S8 dU,jz (.tmp 17 rfl rfl) av (aN _) (.here 18 rfl),aS 1 rfl rfl rfl rfl 0 rfl (by kernel_rfl) (by kernel_rfl) av (.tmp 18 rfl rfl) (aN _),trivial⟩ (.k (.s .o .z)) (.k8 (.k8 (.fS .z))) λa w hI=>?_
   refine cz ?_
   refine aj ?_
   refine Qd hI 3 [] [] [Uc 0 18 _,Uc 1 19 _,Uc 2 6 _] (.k (.k .z)) (.kk (.t 2 (.k8 (.k8 .z)))) ⟨mv,bl,mv,trivial⟩ (.k (.k .z)) (.ry (.k8 (.k8 (.kk .z)))) λa w hI=>?_
   refine aj ?_
   exact⟨k+1,⟨⟨by omega,by omega⟩,(hI.conv ⟨⟨0,_,_,rfl,⟨rfl,rfl,rfl⟩,rfl,λ_=>λ_ _ h=>h⟩,⟨1,_,_,rfl,⟨rfl,rfl,rfl⟩,rfl,λ_=>(jU (by show _=if _ then _ else _; rw[if_pos t2]))⟩,trivial⟩ ⟨⟨rfl,rfl,0,_,rfl,λ_ _ h=>h⟩,⟨rfl,rfl,1,_,rfl,λ_ _ h=>h⟩,⟨rfl,rfl,20,_,rfl,(fl (by omega))⟩,trivial⟩)⟩,(show l.length-(k+1)<l.length-k by omega)⟩
  ·have t3:=of_decide_eq_false ht
   refine wp_skip ?_
   refine cz ?_
   refine aj ?_
   refine Qd hI 3 [] [] [Uc 0 18 _,Uc 1 19 _,Uc 2 6 _] (.k (.k .z)) (.kk (.t 2 (.k8 (.aK .z)))) ⟨mv,bl,mv,trivial⟩ (.k (.k .z)) (.ry (.k8 (.aK (.kk .z)))) λa w hI=>?_
   refine aj ?_
   exact⟨k+1,⟨⟨by omega,by omega⟩,(hI.conv ⟨⟨0,_,_,rfl,⟨rfl,rfl,rfl⟩,rfl,λ_=>λ_ _ h=>h⟩,⟨1,_,_,rfl,⟨rfl,rfl,rfl⟩,rfl,λ_=>(jU (by show _=if _ then _ else _; rw[if_neg t3]))⟩,trivial⟩ ⟨⟨rfl,rfl,0,_,rfl,λ_ _ h=>h⟩,⟨rfl,rfl,1,_,rfl,λ_ _ h=>h⟩,⟨rfl,rfl,16,_,rfl,(fl (by omega))⟩,trivial⟩)⟩,(show l.length-(k+1)<l.length-k by omega)⟩
 ·have t4:=of_decide_eq_false ht
  refine wp_exit ?_
  refine bw ?_
  refine bw ?_
  refine cM ?_
  refine aj ?_
  refine jb hI 2 [] [] [Uc 0 32 (au (eH l k))] (.u none [(1,pv (au (eH l k)))] (.k .z)) (.aK (.fS .z)) ⟨bG 1 rfl rfl rfl rfl (by kernel_rfl) av rfl (.here 7 rfl),aS 0 rfl rfl rfl rfl 0 rfl (by kernel_rfl) (by kernel_rfl) av (.tmp 7 rfl rfl) (aN _),trivial⟩ (.s .o (.k .z)) (.d8 .z) λa w hI=>?_
  refine wp_ret ?_
  exact dx hI rfl (.imp (.cell 0 rfl rfl rfl rfl av rfl) (jU (by rw[show k=l.length by omega])))
theorem Od (h0:0<l.length) (hn:l.length<=1000000000) (hb:∀x∈l,bg j x) (hj:j+j<=100000000):∀(M:Nat->Nat->Prop) (w:World) (v0 v1:Value),dc M w->aL M (λw=>(nh l) w v0) w->aL M (λw=>(cI (.func (.func 46) #[] #[])) w v1) w->Calls Tryz.prog 118 #[v0,v1] w (bu M (au (eG l l.length)) w):=by
 intro M w0 v0 v1 hM hv0 gb
 refine aQ (N:=33) Tryz.func118 rfl rfl rfl hM (show ck M w0 [v0,v1] [⟨none,none,0,nh l⟩,⟨none,none,1,cI (.func (.func 46) #[] #[])⟩]from⟨⟨rfl,_,rfl,hv0⟩,⟨rfl,_,rfl,gb⟩,trivial⟩) λa hI=>?_
 refine jb hI 1 [⟨4,4,some 0,none,.ptr,32,3,true,pv (au 0),[]⟩] [] [] .z (.kk .z) ⟨bp 0 rfl rfl (by kernel_rfl) (by kernel_rfl) rfl rfl rfl gp rfl rfl (by simp[fq]) rfl (λw=>cF w),trivial⟩ (.k .z) (.kk .z) λa w hI=>?_
 refine wp_seq ?_
 refine jb hI 3 [] [] [Uc 0 7 _,Uc 1 8 (pI (l.length:Int)),Uc 2 9 (pB false)] (.k .z) (.kk .z) ⟨mv,uN (.tmp 2 rfl rfl) (dU).under (.here 3 rfl),gg (v:=.bool (decide ((l.length:Int)<(1:Int)))) (.tmp 3 rfl rfl) (.const _) (λ_=>rfl) (.at_ 4 _ _ rfl (jT (decide_eq_false (by omega)))),trivial⟩ (.k .z) (.gX (.k .z)) λa w hI=>?_
 refine sN hI 2 rfl ?_
 refine wp_skip ?_
 refine aj ?_
 refine jb hI 5 [⟨5,5,some 3,none,.ptr,32,3,true,pv (au 0),[(4,pv (au (l.getD 0 0)))]⟩] [] [Uc 0 11 _,Uc 1 12 _,Uc 2 13 (au (l.getD 0 0))] (.k .z) (.fS .z) ⟨mv,Xq dU,jz (.tmp 4 rfl rfl) av (aN _) (.here 5 rfl),bp 1 rfl rfl (by kernel_rfl) (by kernel_rfl) rfl rfl rfl gp rfl rfl (by simp[fq]) rfl (λw=>cF w),aS 1 rfl rfl rfl rfl 0 rfl (by kernel_rfl) (by kernel_rfl) av (.tmp 5 rfl rfl) (aN _),trivial⟩ (.k (.s .o .z)) (.gX (.dd .z)) λa w hI=>?_
 refine wp_seq ?_
 refine jb hI 1 [] [] [Uc 0 6 _] (.k (.k .z)) (.kk .z) ⟨mv,trivial⟩ (.k (.k .z)) (.fS .z) λa w hI=>?_
 refine wp_block ?_
 refine vR (λ(k:Nat) a w=>(1<=k/\k<=l.length)/\Inv ⟨33,w0,M,λ_=>False⟩ [⟨4,4,none,none,.ptr,32,3,true,pv (au 0),[]⟩,⟨5,5,none,none,.ptr,32,3,true,pv (au (eG l k)),[]⟩] [] [⟨none,none,0,nh l⟩,⟨none,none,1,cI (.func (.func 46) #[] #[])⟩,⟨none,none,6,pI (k:Int)⟩] none_ a w) (λ(k:Nat)=>l.length-k) (1) ⟨⟨Nat.le_refl _,h0⟩,(hI.conv ⟨⟨0,_,_,rfl,⟨rfl,rfl,rfl⟩,rfl,λ_=>λ_ _ h=>h⟩,⟨1,_,_,rfl,⟨rfl,rfl,rfl⟩,rfl,λ_=>(jU (FV l).symm)⟩,trivial⟩ ⟨⟨rfl,rfl,0,_,rfl,λ_ _ h=>h⟩,⟨rfl,rfl,1,_,rfl,λ_ _ h=>h⟩,⟨rfl,rfl,2,_,rfl,(fl (by omega))⟩,trivial⟩)⟩ ?_
 intro k a w Ub
 obtain⟨hp,hI⟩:=Ub
 refine wp_seq ?_
 refine jb hI 4 [] [] [Uc 0 14 _,Uc 1 15 _,Uc 2 16 (pI (l.length:Int)),Uc 3 17 _] (.k (.k .z)) (.fS .z) ⟨mv,mv,uN (.tmp 4 rfl rfl) (dU).under (.here 5 rfl),bl,trivial⟩ (.k (.k .z)) (.aK (.fS .z)) λa w hI=>?_
 refine ik hI 6 rfl (λht=>?_) (λht=>?_)
 ·have t1:=of_decide_eq_true ht
  refine wp_skip ?_
  refine aj ?_
  refine wp_seq ?_
  refine wp_block ?_
  refine BA hI [0,0,0,6,14,0,63,127] [] [] [Uc 0 20 _,Uc 1 21 _,Uc 2 22 _,Uc 3 23 _,Uc 4 24 (au (l.getD k 0)),Uc 5 25 (au (eG l k)),Uc 6 26 (pI (fR (l.getD k 0) (eG l k))),Uc 7 27 _] (.k (.k .z)) (.aK (.fS .z)) ⟨mv,mv,mv,S8 dU,jz (.tmp 10 rfl rfl) av (aN _) (.here 11 rfl),bG 1 rfl rfl rfl rfl (by kernel_rfl) av rfl (.here 12 rfl),xJ (λ_ _=>by kernel_rfl) (.tmp 7 rfl rfl) (.tmp 11 rfl rfl) (.tmp 12 rfl rfl) (.here 13 rfl) (Qs (bz _) (DC (nI hb (by omega)) (tE hb h0 _ (by omega)) (by omega))),bl,trivial⟩ (.k (.k .z)) (.k8 (.aK (.fS .z))) λa w hI=>?_
  refine ik hI 14 rfl (λht=>?_) (λht=>?_)
  ·have t2:=of_decide_eq_true ht
   refine Qd hI 5 [] [] [Uc 0 28 _,Uc 1 29 _,Uc 2 30 _,Uc 3 31 (au (l.getD k 0))] (.k (.u none [(4,pv (au (l.getD k 0)))] .z)) (.k8 (.aK (.fS .z))) ⟨mv,mv,S8 dU,jz (.tmp 17 rfl rfl) av (aN _) (.here 18 rfl),aS 1 rfl rfl rfl rfl 0 rfl (by kernel_rfl) (by kernel_rfl) av (.tmp 18 rfl rfl) (aN _),trivial⟩ (.k (.s .o .z)) (.k8 (.k8 (.fS .z))) λa w hI=>?_
   refine cz ?_
   refine aj ?_
   refine Qd hI 3 [] [] [Uc 0 18 _,Uc 1 19 _,Uc 2 6 _] (.k (.k .z)) (.kk (.t 2 (.k8 (.k8 .z)))) ⟨mv,bl,mv,trivial⟩ (.k (.k .z)) (.ry (.k8 (.k8 (.kk .z)))) λa w hI=>?_
   refine aj ?_
   exact⟨k+1,⟨⟨by omega,by omega⟩,(hI.conv ⟨⟨0,_,_,rfl,⟨rfl,rfl,rfl⟩,rfl,λ_=>λ_ _ h=>h⟩,⟨1,_,_,rfl,⟨rfl,rfl,rfl⟩,rfl,λ_=>(jU (by show _=if _ then _ else _; rw[if_pos t2]))⟩,trivial⟩ ⟨⟨rfl,rfl,0,_,rfl,λ_ _ h=>h⟩,⟨rfl,rfl,1,_,rfl,λ_ _ h=>h⟩,⟨rfl,rfl,20,_,rfl,(fl (by omega))⟩,trivial⟩)⟩,(show l.length-(k+1)<l.length-k by omega)⟩
  ·have t3:=of_decide_eq_false ht
   refine wp_skip ?_
   refine cz ?_
   refine aj ?_
   refine Qd hI 3 [] [] [Uc 0 18 _,Uc 1 19 _,Uc 2 6 _] (.k (.k .z)) (.kk (.t 2 (.k8 (.aK .z)))) ⟨mv,bl,mv,trivial⟩ (.k (.k .z)) (.ry (.k8 (.aK (.kk .z)))) λa w hI=>?_
   refine aj ?_
   exact⟨k+1,⟨⟨by omega,by omega⟩,(hI.conv ⟨⟨0,_,_,rfl,⟨rfl,rfl,rfl⟩,rfl,λ_=>λ_ _ h=>h⟩,⟨1,_,_,rfl,⟨rfl,rfl,rfl⟩,rfl,λ_=>(jU (by show _=if _ then _ else _; rw[if_neg t3]))⟩,trivial⟩ ⟨⟨rfl,rfl,0,_,rfl,λ_ _ h=>h⟩,⟨rfl,rfl,1,_,rfl,λ_ _ h=>h⟩,⟨rfl,rfl,16,_,rfl,(fl (by omega))⟩,trivial⟩)⟩,(show l.length-(k+1)<l.length-k by omega)⟩
 ·have t4:=of_decide_eq_false ht
  refine wp_exit ?_
  refine bw ?_
  refine bw ?_
  refine cM ?_
  refine aj ?_
  refine jb hI 2 [] [] [Uc 0 32 (au (eG l k))] (.u none [(1,pv (au (eG l k)))] (.k .z)) (.aK (.fS .z)) ⟨bG 1 rfl rfl rfl rfl (by kernel_rfl) av rfl (.here 7 rfl),aS 0 rfl rfl rfl rfl 0 rfl (by kernel_rfl) (by kernel_rfl) av (.tmp 7 rfl rfl) (aN _),trivial⟩ (.s .o (.k .z)) (.d8 .z) λa w hI=>?_
  refine wp_ret ?_
  exact dx hI rfl (.imp (.cell 0 rfl rfl rfl rfl av rfl) (jU (by rw[show k=l.length by omega])))
theorem qV (h0:0<l.length) (hn:l.length<=1000000000) (hb:∀x∈l,bg j x) (hj:j+j<=100000000):∀(M:Nat->Nat->Prop) (w:World) (v0:Value),dc M w->aL M (λw=>(nh l) w v0) w->Calls Tryz.prog 76 #[v0] w (bu M (bf (eH l l.length) (eG l l.length)) w):=by
 intro M w0 v0 hM hv0
 refine aQ (N:=8) Tryz.func76 rfl rfl rfl hM (show ck M w0 [v0] [⟨none,none,0,nh l⟩]from⟨⟨rfl,_,rfl,hv0⟩,trivial⟩) λa hI=>?_
 refine jb hI 1 [⟨2,2,some 0,none,.ptr,43,6,true,pv (bf 0 0),[]⟩] [] [] .z (.k .z) ⟨bp 0 rfl rfl (by kernel_rfl) (by kernel_rfl) rfl rfl rfl iH rfl rfl (by simp[fq]) rfl (λw=>oG (cS w)),trivial⟩ (.k .z) (.k .z) λa w hI=>?_
 refine jb hI 6 [] [] [Uc 0 3 _,Uc 1 4 _,Uc 2 5 _,Uc 3 6 _,Uc 4 7 (bf (eH l l.length) (eG l l.length))] (.u none [(5,pv (bf (eH l l.length) (eG l l.length)))] .z) (.k .z) ⟨mv,Hx (Oe (j:=j) h0 hn hb hj),mv,Hx (Od (j:=j) h0 hn hb hj),gQ (fs:=[⟨true,3,au 0⟩,⟨true,3,au 0⟩]) (ps:=[(0,au (eH l l.length)),(1,au (eG l l.length))]) pM (fW (by kernel_rfl)) (cS) (show bS _ _ _ _ _ _ from⟨⟨rfl,(.tmp 2 rfl rfl),_,rfl,aN _⟩,⟨rfl,(.tmp 4 rfl rfl),_,rfl,aN _⟩,trivial⟩) rfl (.here 5 rfl),aS 0 rfl rfl rfl rfl 0 rfl (by kernel_rfl) (by kernel_rfl) cP (.tmp 5 rfl rfl) (bU _ _),trivial⟩ (.s .o .z) (.ek (.dd .z)) λa w hI=>?_
 refine wp_ret ?_
 exact dx hI rfl (.cell 0 rfl rfl rfl rfl cP rfl)
theorem yu (a1:Rat):∀(M:Nat->Nat->Prop) (w:World) (v0:Value),dc M w->aL M (λw=>(au a1) w v0) w->Calls Tryz.prog 34 #[v0] w (bu M (bf a1 a1) w):=by
 intro M w0 v0 hM hv0
 refine aQ (N:=6) Tryz.func34 rfl rfl rfl hM (show ck M w0 [v0] [⟨none,none,0,au a1⟩]from⟨⟨rfl,_,rfl,hv0⟩,trivial⟩) λa hI=>?_
 refine jb hI 2 [⟨1,1,some 0,none,.ptr,32,3,true,pv (au a1),[]⟩,⟨2,2,some 1,none,.ptr,43,6,true,pv (bf 0 0),[]⟩] [] [] .z (.k .z) ⟨bQ 0 rfl rfl (by kernel_rfl) (by kernel_rfl) rfl rfl rfl (.tmp 0 rfl rfl) (aN _) rfl,bp 1 rfl rfl (by kernel_rfl) (by kernel_rfl) rfl rfl rfl iH rfl rfl (by simp[fq]) rfl (λw=>oG (cS w)),trivial⟩ (.k (.k .z)) (.d .z) λa w hI=>?_
 refine jb hI 4 [] [] [Uc 0 3 (au a1),Uc 1 4 (au a1),Uc 2 5 (bf a1 a1)] (.k (.u none [(3,pv (bf a1 a1))] .z)) .z ⟨bG 0 rfl rfl rfl rfl (by kernel_rfl) av rfl (.here 0 rfl),bG 0 rfl rfl rfl rfl (by kernel_rfl) av rfl (.here 1 rfl),gQ (fs:=[⟨true,3,au 0⟩,⟨true,3,au 0⟩]) (ps:=[(0,au a1),(1,au a1)]) pM (fW (by kernel_rfl)) (cS) (show bS _ _ _ _ _ _ from⟨⟨rfl,(.tmp 0 rfl rfl),_,rfl,aN _⟩,⟨rfl,(.tmp 1 rfl rfl),_,rfl,aN _⟩,trivial⟩) rfl (.here 2 rfl),aS 1 rfl rfl rfl rfl 0 rfl (by kernel_rfl) (by kernel_rfl) cP (.tmp 2 rfl rfl) (bU _ _),trivial⟩ (.k (.s .o .z)) (.Ky .z) λa w hI=>?_
 refine wp_ret ?_
 exact dx hI rfl (.cell 1 rfl rfl rfl rfl cP rfl)
theorem MK (a1 a2:Rat):∀(M:Nat->Nat->Prop) (w:World) (v0:Value),dc M w->aL M (λw=>(bf a1 a2) w v0) w->Calls Tryz.prog 44 #[v0] w (bu M (au a1) w):=by
 intro M w0 v0 hM hv0
 refine aQ (N:=5) Tryz.func44 rfl rfl rfl hM (show ck M w0 [v0] [⟨none,none,0,bf a1 a2⟩]from⟨⟨rfl,_,rfl,hv0⟩,trivial⟩) λa hI=>?_
 refine jb hI 2 [⟨1,1,some 0,none,.ptr,43,6,true,pv (bf a1 a2),[]⟩,⟨2,2,some 1,none,.ptr,32,3,true,pv (au 0),[]⟩] [] [] .z (.k .z) ⟨bQ 0 rfl rfl (by kernel_rfl) (by kernel_rfl) rfl rfl rfl (.tmp 0 rfl rfl) (bU _ _) rfl,bp 1 rfl rfl (by kernel_rfl) (by kernel_rfl) rfl rfl rfl gp rfl rfl (by simp[fq]) rfl (λw=>cF w),trivial⟩ (.k (.k .z)) (.d .z) λa w hI=>?_
 refine jb hI 3 [] [⟨some 0,3,1,0,True⟩] [Uc 1 4 _] (.k (.u none [(2,pv (au a1))] .z)) .z ⟨aq 0 rfl rfl rfl 0 rfl rfl rfl rfl (.inl ⟨rfl,rfl⟩) rfl (by kernel_rfl) (λb w=>cD b 0 w),iq av,aS 1 rfl rfl rfl rfl 0 rfl (by kernel_rfl) (by kernel_rfl) av (.tmp 0 rfl rfl) (aN _),trivial⟩ (.k (.s .o .z)) (.d .z) λa w hI=>?_
 refine wp_ret ?_
 exact dx hI rfl (.cell 1 rfl rfl rfl rfl av rfl)
theorem QD (a1 a2:Rat):∀(M:Nat->Nat->Prop) (w:World) (v0:Value),dc M w->aL M (λw=>(bf a1 a2) w v0) w->Calls Tryz.prog 45 #[v0] w (bu M (au a2) w):=by
 intro M w0 v0 hM hv0
 refine aQ (N:=5) Tryz.func45 rfl rfl rfl hM (show ck M w0 [v0] [⟨none,none,0,bf a1 a2⟩]from⟨⟨rfl,_,rfl,hv0⟩,trivial⟩) λa hI=>?_
 refine jb hI 2 [⟨1,1,some 0,none,.ptr,43,6,true,pv (bf a1 a2),[]⟩,⟨2,2,some 1,none,.ptr,32,3,true,pv (au 0),[]⟩] [] [] .z (.k .z) ⟨bQ 0 rfl rfl (by kernel_rfl) (by kernel_rfl) rfl rfl rfl (.tmp 0 rfl rfl) (bU _ _) rfl,bp 1 rfl rfl (by kernel_rfl) (by kernel_rfl) rfl rfl rfl gp rfl rfl (by simp[fq]) rfl (λw=>cF w),trivial⟩ (.k (.k .z)) (.d .z) λa w hI=>?_
 refine jb hI 3 [] [⟨some 0,3,1,3,True⟩] [Uc 1 4 _] (.k (.u none [(2,pv (au a2))] .z)) .z ⟨aq 0 rfl rfl rfl 0 rfl rfl rfl rfl (.inl ⟨rfl,rfl⟩) rfl (by kernel_rfl) (λb w=>cE b 0 w),iq av,aS 1 rfl rfl rfl rfl 0 rfl (by kernel_rfl) (by kernel_rfl) av (.tmp 0 rfl rfl) (aN _),trivial⟩ (.k (.s .o .z)) (.d .z) λa w hI=>?_
 refine wp_ret ?_
 exact dx hI rfl (.cell 1 rfl rfl rfl rfl av rfl)
variable {a1 a2 b1 b2:Rat} {k:Nat}
theorem Ob (ha:bg j a1/\bg j a2) (hb:bg k b1/\bg k b2) (hj:j+k+j+k+1<=100000000):∀(M:Nat->Nat->Prop) (w:World) (v0 v1:Value),dc M w->aL M (λw=>(bf a1 a2) w v0) w->aL M (λw=>(bf b1 b2) w v1) w->Calls Tryz.prog 52 #[v0,v1] w (bu M (bf (a1+b1) (a2+b2)) w):=by
 intro M w0 v0 v1 hM hv0 gb
 refine aQ (N:=16) Tryz.func52 rfl rfl rfl hM (show ck M w0 [v0,v1] [⟨none,none,0,bf a1 a2⟩,⟨none,none,1,bf b1 b2⟩]from⟨⟨rfl,_,rfl,hv0⟩,⟨rfl,_,rfl,gb⟩,trivial⟩) λa hI=>?_
 refine jb hI 3 [⟨2,2,some 0,none,.ptr,43,6,true,pv (bf a1 a2),[]⟩,⟨3,3,some 1,none,.ptr,43,6,true,pv (bf b1 b2),[]⟩,⟨4,4,some 2,none,.ptr,43,6,true,pv (bf 0 0),[]⟩] [] [] .z (.kk .z) ⟨bQ 0 rfl rfl (by kernel_rfl) (by kernel_rfl) rfl rfl rfl (.tmp 0 rfl rfl) (bU _ _) rfl,bQ 1 rfl rfl (by kernel_rfl) (by kernel_rfl) rfl rfl rfl (.tmp 1 rfl rfl) (bU _ _) rfl,bp 2 rfl rfl (by kernel_rfl) (by kernel_rfl) rfl rfl rfl iH rfl rfl (by simp[fq]) rfl (λw=>oG (cS w)),trivial⟩ (.k (.k (.k .z))) (.dd .z) λa w hI=>?_
 refine BA hI [0,1,0,4,15,0,32,0,128,511,1023,2047] [] [⟨some 0,5,2,0,True⟩,⟨some 2,7,3,0,True⟩,⟨some 5,10,2,3,True⟩,⟨some 7,12,3,3,True⟩] [Uc 1 6 _,Uc 3 8 _,Uc 4 9 _,Uc 6 11 _,Uc 8 13 _,Uc 9 14 _,Uc 10 15 (bf (a1+b1) (a2+b2))] (.k (.k (.u none [(11,pv (bf (a1+b1) (a2+b2)))] .z))) .z ⟨aq 0 rfl rfl rfl 0 rfl rfl rfl rfl (.inl ⟨rfl,rfl⟩) rfl (by kernel_rfl) (λb w=>cD b 0 w),iq av,aq 1 rfl rfl rfl 1 rfl rfl rfl rfl (.inl ⟨rfl,rfl⟩) rfl (by kernel_rfl) (λb w=>cD b 0 w),iq av,qN (bt _) (Hq ha.1 hb.1 (by omega)),aq 0 rfl rfl rfl 2 rfl rfl rfl rfl (.inl ⟨rfl,rfl⟩) rfl (by kernel_rfl) (λb w=>cE b 0 w),iq av,aq 1 rfl rfl rfl 3 rfl rfl rfl rfl (.inl ⟨rfl,rfl⟩) rfl (by kernel_rfl) (λb w=>cE b 0 w),iq av,qN (bt _) (Hq ha.2 hb.2 (by omega)),gQ (fs:=[⟨true,3,au 0⟩,⟨true,3,au 0⟩]) (ps:=[(0,au (a1+b1)),(1,au (a2+b2))]) pM (fW (by kernel_rfl)) (cS) (show bS _ _ _ _ _ _ from⟨⟨rfl,(.tmp 2 rfl rfl),_,rfl,aN _⟩,⟨rfl,(.tmp 5 rfl rfl),_,rfl,aN _⟩,trivial⟩) rfl (.here 6 rfl),aS 2 rfl rfl rfl rfl 0 rfl (by kernel_rfl) (by kernel_rfl) cP (.tmp 6 rfl rfl) (bU _ _),trivial⟩ (.k (.k (.s .o .z))) (.ek (.Ky .z)) λa w hI=>?_
 refine wp_ret ?_
 exact dx hI rfl (.cell 2 rfl rfl rfl rfl cP rfl)
theorem Oc {y:Rat} (ha:bg j a1/\bg j a2) (hy:bg k y) (hj:j+k<=100000000):∀(M:Nat->Nat->Prop) (w:World) (v0 v1:Value),dc M w->aL M (λw=>(bf a1 a2) w v0) w->aL M (λw=>(au y) w v1) w->Calls Tryz.prog 12 #[v0,v1] w (bu M (pB (decide (a1<=y)&&decide (y<=a2))) w):=by
 intro M w0 v0 v1 hM hv0 gb
 refine aQ (N:=17) Tryz.func12 rfl rfl rfl hM (show ck M w0 [v0,v1] [⟨none,none,0,bf a1 a2⟩,⟨none,none,1,au y⟩]from⟨⟨rfl,_,rfl,hv0⟩,⟨rfl,_,rfl,gb⟩,trivial⟩) λa hI=>?_
 refine jb hI 3 [⟨2,2,some 0,none,.ptr,43,6,true,pv (bf a1 a2),[]⟩,⟨3,3,some 1,none,.ptr,32,3,true,pv (au y),[]⟩] [] [Uc 2 4 _] .z (.kk .z) ⟨bQ 0 rfl rfl (by kernel_rfl) (by kernel_rfl) rfl rfl rfl (.tmp 0 rfl rfl) (bU _ _) rfl,bQ 1 rfl rfl (by kernel_rfl) (by kernel_rfl) rfl rfl rfl (.tmp 1 rfl rfl) (aN _) rfl,mv,trivial⟩ (.k (.k .z)) (.we .z) λa w hI=>?_
 refine jb hI 13 [] [⟨some 0,5,2,0,True⟩,⟨some 7,12,2,3,(decide ((fR a1 y)<=(0:Int)))=true⟩] [Uc 1 6 _,Uc 2 7 (au y),Uc 3 8 _,Uc 4 9 _,Uc 5 10 _,Uc 6 11 (qw ((decide ((fR a1 y)<=(0:Int)))=true) (au y)),Uc 8 13 _,Uc 9 14 _,Uc 10 15 _,Uc 11 16 _,Uc 12 4 _] (.k (.k .z)) (.t 12 .z) ⟨aq 0 rfl rfl rfl 0 rfl rfl rfl rfl (.inl ⟨rfl,rfl⟩) rfl (by kernel_rfl) (λb w=>cD b 0 w),iq av,bG 1 rfl rfl rfl rfl (by kernel_rfl) av rfl (.here 2 rfl),qN (bz _) (DC ha.1 hy (by omega)),bl,mv,Bf 5 rfl rfl (λhc=>bG 1 rfl rfl rfl rfl (by kernel_rfl) av rfl (.NC hc 6 rfl)) (by kernel_rfl) (λ_=>.none (by kernel_rfl)) (λhc=>.C6 hc 6 rfl),Bf 5 rfl rfl (λhc=>aq 0 rfl rfl rfl 1 rfl rfl rfl rfl (.inl ⟨rfl,rfl⟩) rfl (by kernel_rfl) (λb w=>cE b 0 w)) (by kernel_rfl) (λhc=>.at_ 1 rfl rfl rfl hc) (λhc=>.none (by kernel_rfl)),gd λh=>Q5 h av,gd λh=>Q4 h (bz _) (DC hy ha.2 (by omega)),gd λh=>WD h,pk,mv,trivial⟩ (.k (.k .z)) (.d8 (.gV .z)) λa w hI=>?_
 refine wp_ret ?_
 exact dx hI rfl (.imp (.tmp 0 rfl) (jT (by rw[yz,yz])))
theorem Of (ha:bg j a1/\bg j a2) (hb:bg k b1/\bg k b2) (hj:j+k+(j+k)<=100000000):∀(M:Nat->Nat->Prop) (w:World) (v0 v1:Value),dc M w->aL M (λw=>(bf a1 a2) w v0) w->aL M (λw=>(bf b1 b2) w v1) w->Calls Tryz.prog 53 #[v0,v1] w (bu M (bf (eZ (a1*b1) (a1*b2) (a2*b1) (a2*b2)) (eY (a1*b1) (a1*b2) (a2*b1) (a2*b2))) w):=by
 intro M w0 v0 v1 hM hv0 gb
 refine aQ (N:=27) Tryz.func53 rfl rfl rfl hM (show ck M w0 [v0,v1] [⟨none,none,0,bf a1 a2⟩,⟨none,none,1,bf b1 b2⟩]from⟨⟨rfl,_,rfl,hv0⟩,⟨rfl,_,rfl,gb⟩,trivial⟩) λa hI=>?_
 refine jb hI 3 [⟨2,2,some 0,none,.ptr,43,6,true,pv (bf a1 a2),[]⟩,⟨3,3,some 1,none,.ptr,43,6,true,pv (bf b1 b2),[]⟩,⟨4,4,some 2,none,.ptr,43,6,true,pv (bf 0 0),[]⟩] [] [] .z (.kk .z) ⟨bQ 0 rfl rfl (by kernel_rfl) (by kernel_rfl) rfl rfl rfl (.tmp 0 rfl rfl) (bU _ _) rfl,bQ 1 rfl rfl (by kernel_rfl) (by kernel_rfl) rfl rfl rfl (.tmp 1 rfl rfl) (bU _ _) rfl,bp 2 rfl rfl (by kernel_rfl) (by kernel_rfl) rfl rfl rfl iH rfl rfl (by simp[fq]) rfl (λw=>oG (cS w)),trivial⟩ (.k (.k (.k .z))) (.dd .z) λa w hI=>?_
 refine BA hI [0,1,0,4,15,0,32,0,128,511,0,1024,0,4096,16383,0,32768,0,131072,524287,1048575,2097151,4194303] [] [⟨some 0,5,2,0,True⟩,⟨some 2,7,3,0,True⟩,⟨some 5,10,2,0,True⟩,⟨some 7,12,3,3,True⟩,⟨some 10,15,2,3,True⟩,⟨some 12,17,3,0,True⟩,⟨some 15,20,2,3,True⟩,⟨some 17,22,3,3,True⟩] [Uc 1 6 _,Uc 3 8 _,Uc 4 9 _,Uc 6 11 _,Uc 8 13 _,Uc 9 14 _,Uc 11 16 _,Uc 13 18 _,Uc 14 19 _,Uc 16 21 _,Uc 18 23 _,Uc 19 24 _,Uc 20 25 (nh ([a1*b1,a1*b2,a2*b1,a2*b2])),Uc 21 26 _] (.k (.k (.u none [(22,pv (bf (eZ (a1*b1) (a1*b2) (a2*b1) (a2*b2)) (eY (a1*b1) (a1*b2) (a2*b1) (a2*b2))))] .z))) .z ⟨aq 0 rfl rfl rfl 0 rfl rfl rfl rfl (.inl ⟨rfl,rfl⟩) rfl (by kernel_rfl) (λb w=>cD b 0 w),iq av,aq 1 rfl rfl rfl 1 rfl rfl rfl rfl (.inl ⟨rfl,rfl⟩) rfl (by kernel_rfl) (λb w=>cD b 0 w),iq av,qN (bt _) (zQ ha.1 hb.1 (by omega)),aq 0 rfl rfl rfl 2 rfl rfl rfl rfl (.inl ⟨rfl,rfl⟩) rfl (by kernel_rfl) (λb w=>cD b 0 w),iq av,aq 1 rfl rfl rfl 3 rfl rfl rfl rfl (.inl ⟨rfl,rfl⟩) rfl (by kernel_rfl) (λb w=>cE b 0 w),iq av,qN (bt _) (zQ ha.1 hb.2 (by omega)),aq 0 rfl rfl rfl 4 rfl rfl rfl rfl (.inl ⟨rfl,rfl⟩) rfl (by kernel_rfl) (λb w=>cE b 0 w),iq av,aq 1 rfl rfl rfl 5 rfl rfl rfl rfl (.inl ⟨rfl,rfl⟩) rfl (by kernel_rfl) (λb w=>cD b 0 w),iq av,qN (bt _) (zQ ha.2 hb.1 (by omega)),aq 0 rfl rfl rfl 6 rfl rfl rfl rfl (.inl ⟨rfl,rfl⟩) rfl (by kernel_rfl) (λb w=>cE b 0 w),iq av,aq 1 rfl rfl rfl 7 rfl rfl rfl rfl (.inl ⟨rfl,rfl⟩) rfl (by kernel_rfl) (λb w=>cE b 0 w),iq av,qN (bt _) (zQ ha.2 hb.2 (by omega)),fB (fs:=List.replicate 4 ⟨true,3,au 0⟩) (ps:=[(0,au (a1*b1)),(1,au (a1*b2)),(2,au (a2*b1)),(3,au (a2*b2))]) (gs:=[a1*b1,a1*b2,a2*b1,a2*b2].map λq=>⟨true,3,au q⟩) dU gp rfl rfl rfl (λw=>cF w) rfl (show bS _ _ _ _ _ _ from⟨⟨rfl,(.tmp 2 rfl rfl),_,rfl,aN _⟩,⟨rfl,(.tmp 5 rfl rfl),_,rfl,aN _⟩,⟨rfl,(.tmp 8 rfl rfl),_,rfl,aN _⟩,⟨rfl,(.tmp 11 rfl rfl),_,rfl,aN _⟩,trivial⟩) rfl (λi=>au ([a1*b1,a1*b2,a2*b1,a2*b2].getD i 0)) (zi _) (.here 12 rfl),Hw (qV (j:=(j+k)) (by simp) (by simp) (Qr (((ha.1).mul hb.1)) (((ha.1).mul hb.2)) (((ha.2).mul hb.1)) (((ha.2).mul hb.2))) (by omega)),aS 2 rfl rfl rfl rfl 0 rfl (by kernel_rfl) (by kernel_rfl) cP (.tmp 13 rfl rfl) (bU _ _),trivial⟩ (.k (.k (.s .o .z))) (.d8 (.ek (.dd .z))) λa w hI=>?_
 refine wp_ret ?_
 exact dx hI rfl (.cell 2 rfl rfl rfl rfl cP rfl)
theorem H8 (ha:bg j a1/\bg j a2) (n:Int) (hj:j<=10000000):∀(M:Nat->Nat->Prop) (w:World) (v0 v1:Value),dc M w->aL M (λw=>(bf a1 a2) w v0) w->aL M (λw=>(pI n) w v1) w->Calls Tryz.prog 55 #[v0,v1] w (bu M (bf (bT a1 n) (-(bT (-a2) n))) w):=by
 intro M w0 v0 v1 hM hv0 gb
 refine aQ (N:=14) Tryz.func55 rfl rfl rfl hM (show ck M w0 [v0,v1] [⟨none,none,0,bf a1 a2⟩,⟨none,none,1,pI n⟩]from⟨⟨rfl,_,rfl,hv0⟩,⟨rfl,_,rfl,gb⟩,trivial⟩) λa hI=>?_
 refine jb hI 2 [⟨2,2,some 0,none,.ptr,43,6,true,pv (bf a1 a2),[]⟩,⟨4,4,some 1,none,.ptr,43,6,true,pv (bf 0 0),[]⟩] [] [] .z (.kk .z) ⟨bQ 0 rfl rfl (by kernel_rfl) (by kernel_rfl) rfl rfl rfl (.tmp 0 rfl rfl) (bU _ _) rfl,bp 1 rfl rfl (by kernel_rfl) (by kernel_rfl) rfl rfl rfl iH rfl rfl (by simp[fq]) rfl (λw=>oG (cS w)),trivial⟩ (.k (.k .z)) (.dk .z) λa w hI=>?_
 refine BA hI [0,1,0,7,0,16,0,127,255,511] [] [⟨some 0,5,2,0,True⟩,⟨some 4,9,2,3,True⟩] [Uc 1 6 _,Uc 2 7 _,Uc 3 8 _,Uc 5 10 _,Uc 6 11 _,Uc 7 12 _,Uc 8 13 (bf (bT a1 n) (-(bT (-a2) n)))] (.k (.u none [(9,pv (bf (bT a1 n) (-(bT (-a2) n))))] .z)) (.k .z) ⟨aq 0 rfl rfl rfl 0 rfl rfl rfl rfl (.inl ⟨rfl,rfl⟩) rfl (by kernel_rfl) (λb w=>cD b 0 w),iq av,mv,qN (bt _) (N3 ha.1 (by omega) _),aq 0 rfl rfl rfl 1 rfl rfl rfl rfl (.inl ⟨rfl,rfl⟩) rfl (by kernel_rfl) (λb w=>cE b 0 w),iq av,mv,qN (bt _) (TM ha.2 (by omega) _),gQ (fs:=[⟨true,3,au 0⟩,⟨true,3,au 0⟩]) (ps:=[(0,au (bT a1 n)),(1,au (-(bT (-a2) n)))]) pM (fW (by kernel_rfl)) (cS) (show bS _ _ _ _ _ _ from⟨⟨rfl,(.tmp 3 rfl rfl),_,rfl,aN _⟩,⟨rfl,(.tmp 6 rfl rfl),_,rfl,aN _⟩,trivial⟩) rfl (.here 7 rfl),aS 1 rfl rfl rfl rfl 0 rfl (by kernel_rfl) (by kernel_rfl) cP (.tmp 7 rfl rfl) (bU _ _),trivial⟩ (.k (.s .o .z)) (.d8 .z) λa w hI=>?_
 refine wp_ret ?_
 exact dx hI rfl (.cell 1 rfl rfl rfl rfl cP rfl)
theorem K5 (ha:bg j a1/\bg j a2) (hb:bg j b1/\bg j b2) (hj:j+j<=100000000):∀(M:Nat->Nat->Prop) (w:World) (v0 v1:Value),dc M w->aL M (λw=>(bf a1 a2) w v0) w->aL M (λw=>(bf b1 b2) w v1) w->Calls Tryz.prog 36 #[v0,v1] w (bu M (bf (eZ a1 a2 b1 b2) (eY a1 a2 b1 b2)) w):=by
 intro M w0 v0 v1 hM hv0 gb
 refine aQ (N:=15) Tryz.func36 rfl rfl rfl hM (show ck M w0 [v0,v1] [⟨none,none,0,bf a1 a2⟩,⟨none,none,1,bf b1 b2⟩]from⟨⟨rfl,_,rfl,hv0⟩,⟨rfl,_,rfl,gb⟩,trivial⟩) λa hI=>?_
 refine jb hI 3 [⟨2,2,some 0,none,.ptr,43,6,true,pv (bf a1 a2),[]⟩,⟨3,3,some 1,none,.ptr,43,6,true,pv (bf b1 b2),[]⟩,⟨4,4,some 2,none,.ptr,43,6,true,pv (bf 0 0),[]⟩] [] [] .z (.kk .z) ⟨bQ 0 rfl rfl (by kernel_rfl) (by kernel_rfl) rfl rfl rfl (.tmp 0 rfl rfl) (bU _ _) rfl,bQ 1 rfl rfl (by kernel_rfl) (by kernel_rfl) rfl rfl rfl (.tmp 1 rfl rfl) (bU _ _) rfl,bp 2 rfl rfl (by kernel_rfl) (by kernel_rfl) rfl rfl rfl iH rfl rfl (by simp[fq]) rfl (λw=>oG (cS w)),trivial⟩ (.k (.k (.k .z))) (.dd .z) λa w hI=>?_
 refine jb hI 11 [] [⟨some 0,5,2,0,True⟩,⟨some 2,7,2,3,True⟩,⟨some 4,9,3,0,True⟩,⟨some 6,11,3,3,True⟩] [Uc 1 6 _,Uc 3 8 _,Uc 5 10 _,Uc 7 12 _,Uc 8 13 (nh ([a1,a2,b1,b2])),Uc 9 14 _] (.k (.k (.u none [(10,pv (bf (eZ a1 a2 b1 b2) (eY a1 a2 b1 b2)))] .z))) .z ⟨aq 0 rfl rfl rfl 0 rfl rfl rfl rfl (.inl ⟨rfl,rfl⟩) rfl (by kernel_rfl) (λb w=>cD b 0 w),iq av,aq 0 rfl rfl rfl 1 rfl rfl rfl rfl (.inl ⟨rfl,rfl⟩) rfl (by kernel_rfl) (λb w=>cE b 0 w),iq av,aq 1 rfl rfl rfl 2 rfl rfl rfl rfl (.inl ⟨rfl,rfl⟩) rfl (by kernel_rfl) (λb w=>cD b 0 w),iq av,aq 1 rfl rfl rfl 3 rfl rfl rfl rfl (.inl ⟨rfl,rfl⟩) rfl (by kernel_rfl) (λb w=>cE b 0 w),iq av,fB (fs:=List.replicate 4 ⟨true,3,au 0⟩) (ps:=[(0,au a1),(1,au a2),(2,au b1),(3,au b2)]) (gs:=[a1,a2,b1,b2].map λq=>⟨true,3,au q⟩) dU gp rfl rfl rfl (λw=>cF w) rfl (show bS _ _ _ _ _ _ from⟨⟨rfl,(.tmp 0 rfl rfl),_,rfl,aN _⟩,⟨rfl,(.tmp 1 rfl rfl),_,rfl,aN _⟩,⟨rfl,(.tmp 2 rfl rfl),_,rfl,aN _⟩,⟨rfl,(.tmp 3 rfl rfl),_,rfl,aN _⟩,trivial⟩) rfl (λi=>au ([a1,a2,b1,b2].getD i 0)) (zi _) (.here 4 rfl),Hw (qV (j:=j) (by simp) (by simp) (Qr (ha.1) (ha.2) (hb.1) (hb.2)) (by omega)),aS 2 rfl rfl rfl rfl 0 rfl (by kernel_rfl) (by kernel_rfl) cP (.tmp 5 rfl rfl) (bU _ _),trivial⟩ (.k (.k (.s .o .z))) (.ek (.dd .z)) λa w hI=>?_
 refine wp_ret ?_
 exact dx hI rfl (.cell 2 rfl rfl rfl rfl cP rfl)
theorem E9 (ha:bg j a1/\bg j a2) (hb:bg k b1/\bg k b2) (hj:j+k+(j+k)<=100000000) (hz:¬(b1<=0/\0<=b2)) (h1:b1≠0) (h2:b2≠0):∀(M:Nat->Nat->Prop) (w:World) (v0 v1:Value),dc M w->aL M (λw=>(bf a1 a2) w v0) w->aL M (λw=>(bf b1 b2) w v1) w->Calls Tryz.prog 54 #[v0,v1] w (bu M (fo (bf (eZ (a1/b1) (a1/b2) (a2/b1) (a2/b2)) (eY (a1/b1) (a1/b2) (a2/b1) (a2/b2))) (pI 0)) w):=by
 intro M w0 v0 v1 hM hv0 gb
 refine aQ (N:=32) Tryz.func54 rfl rfl rfl hM (show ck M w0 [v0,v1] [⟨none,none,0,bf a1 a2⟩,⟨none,none,1,bf b1 b2⟩]from⟨⟨rfl,_,rfl,hv0⟩,⟨rfl,_,rfl,gb⟩,trivial⟩) λa hI=>?_
 refine jb hI 4 [⟨2,2,some 0,none,.ptr,43,6,true,pv (bf a1 a2),[]⟩,⟨3,3,some 1,none,.ptr,43,6,true,pv (bf b1 b2),[]⟩,⟨4,4,some 2,none,.ptr,43,6,true,pv (bf 0 0),[]⟩] [] [Uc 3 5 _] .z (.kk .z) ⟨bQ 0 rfl rfl (by kernel_rfl) (by kernel_rfl) rfl rfl rfl (.tmp 0 rfl rfl) (bU _ _) rfl,bQ 1 rfl rfl (by kernel_rfl) (by kernel_rfl) rfl rfl rfl (.tmp 1 rfl rfl) (bU _ _) rfl,bp 2 rfl rfl (by kernel_rfl) (by kernel_rfl) rfl rfl rfl iH rfl rfl (by simp[fq]) rfl (λw=>oG (cS w)),mv,trivial⟩ (.k (.k (.k .z))) (.we .z) λa w hI=>?_
 refine wp_seq ?_
 refine jb hI 3 [] [] [Uc 0 6 (bf b1 b2),Uc 1 7 (au 0),Uc 2 8 _] (.k (.k (.k .z))) (.k .z) ⟨bG 1 rfl rfl rfl rfl (by kernel_rfl) cP rfl (.here 1 rfl),LY Hl (λw=>cF w) (.here 2 rfl),Hx (wQ (b:=false) (Oc (j:=k) (k:=1) ⟨hb.1,hb.2⟩ KR (by omega)) (by rw[<-Bool.decide_and]; exact decide_eq_false hz)) (look rfl) (look rfl),trivial⟩ (.k (.k (.k .z))) (.CA .z) λa w hI=>?_
 refine sN hI 1 rfl ?_
 refine wp_skip ?_
 refine aj ?_
 refine BA hI [0,1,0,4,15,0,32,0,128,511,0,1024,0,4096,16383,0,32768,0,131072,524287,1048575,2097151,4194303,8388607] [] [⟨some 0,10,2,0,True⟩,⟨some 2,12,3,0,True⟩,⟨some 5,15,2,0,True⟩,⟨some 7,17,3,3,True⟩,⟨some 10,20,2,3,True⟩,⟨some 12,22,3,0,True⟩,⟨some 15,25,2,3,True⟩,⟨some 17,27,3,3,True⟩] [Uc 1 11 _,Uc 3 13 _,Uc 4 14 _,Uc 6 16 _,Uc 8 18 _,Uc 9 19 _,Uc 11 21 _,Uc 13 23 _,Uc 14 24 _,Uc 16 26 _,Uc 18 28 _,Uc 19 29 _,Uc 20 30 (nh ([a1/b1,a1/b2,a2/b1,a2/b2])),Uc 21 31 _,Uc 23 5 _] (.k (.k (.u none [(22,pv (bf (eZ (a1/b1) (a1/b2) (a2/b1) (a2/b2)) (eY (a1/b1) (a1/b2) (a2/b1) (a2/b2))))] .z))) (.t 23 (.k .z)) ⟨aq 0 rfl rfl rfl 0 rfl rfl rfl rfl (.inl ⟨rfl,rfl⟩) rfl (by kernel_rfl) (λb w=>cD b 0 w),iq av,aq 1 rfl rfl rfl 1 rfl rfl rfl rfl (.inl ⟨rfl,rfl⟩) rfl (by kernel_rfl) (λb w=>cD b 0 w),iq av,qN (bt _) (KS ha.1 hb.1 (by omega) h1),aq 0 rfl rfl rfl 2 rfl rfl rfl rfl (.inl ⟨rfl,rfl⟩) rfl (by kernel_rfl) (λb w=>cD b 0 w),iq av,aq 1 rfl rfl rfl 3 rfl rfl rfl rfl (.inl ⟨rfl,rfl⟩) rfl (by kernel_rfl) (λb w=>cE b 0 w),iq av,qN (bt _) (KS ha.1 hb.2 (by omega) h2),aq 0 rfl rfl rfl 4 rfl rfl rfl rfl (.inl ⟨rfl,rfl⟩) rfl (by kernel_rfl) (λb w=>cE b 0 w),iq av,aq 1 rfl rfl rfl 5 rfl rfl rfl rfl (.inl ⟨rfl,rfl⟩) rfl (by kernel_rfl) (λb w=>cD b 0 w),iq av,qN (bt _) (KS ha.2 hb.1 (by omega) h1),aq 0 rfl rfl rfl 6 rfl rfl rfl rfl (.inl ⟨rfl,rfl⟩) rfl (by kernel_rfl) (λb w=>cE b 0 w),iq av,aq 1 rfl rfl rfl 7 rfl rfl rfl rfl (.inl ⟨rfl,rfl⟩) rfl (by kernel_rfl) (λb w=>cE b 0 w),iq av,qN (bt _) (KS ha.2 hb.2 (by omega) h2),fB (fs:=List.replicate 4 ⟨true,3,au 0⟩) (ps:=[(0,au (a1/b1)),(1,au (a1/b2)),(2,au (a2/b1)),(3,au (a2/b2))]) (gs:=[a1/b1,a1/b2,a2/b1,a2/b2].map λq=>⟨true,3,au q⟩) dU gp rfl rfl rfl (λw=>cF w) rfl (show bS _ _ _ _ _ _ from⟨⟨rfl,(.tmp 4 rfl rfl),_,rfl,aN _⟩,⟨rfl,(.tmp 7 rfl rfl),_,rfl,aN _⟩,⟨rfl,(.tmp 10 rfl rfl),_,rfl,aN _⟩,⟨rfl,(.tmp 13 rfl rfl),_,rfl,aN _⟩,trivial⟩) rfl (λi=>au ([a1/b1,a1/b2,a2/b1,a2/b2].getD i 0)) (zi _) (.here 14 rfl),Hw (qV (j:=(j+k)) (by simp) (by simp) (Qr (((ha.1).quo hb.1)) (((ha.1).quo hb.2)) (((ha.2).quo hb.1)) (((ha.2).quo hb.2))) (by omega)),aS 2 rfl rfl rfl rfl 0 rfl (by kernel_rfl) (by kernel_rfl) cP (.tmp 15 rfl rfl) (bU _ _),mv,trivial⟩ (.k (.k (.s .o .z))) (.d8 (.d8 (.k .z))) λa w hI=>?_
 refine wp_ret ?_
 exact qY hI rfl (.cell 2 rfl rfl rfl rfl cP rfl) (.tmp 0 rfl)
end Wx
