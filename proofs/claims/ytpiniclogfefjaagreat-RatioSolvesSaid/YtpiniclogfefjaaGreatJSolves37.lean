import Derived.Test.YtpiniclogfefjaaGreatJSolves36
import Derived.Test.YtpiniclogfefjaaGreatJSolves33
namespace Wx
set_option maxRecDepth 100000
open Go Go.RowKit Go.Proofs
set_option linter.unusedVariables false

theorem Qh8 (m n:Nat):(m<n∧X0 m n = -1)∨(m=n∧X0 m n=0)∨(n<m∧X0 m n=1):=by
 unfold X0
 rcases Nat.lt_trichotomy m n with h|h|h
 ·exact .inl ⟨h,if_pos h⟩
 ·exact .inr (.inl ⟨h,by rw[if_neg (by omega),if_neg (by omega)]⟩)
 ·exact .inr (.inr ⟨h,by rw[if_neg (by omega),if_pos h]⟩)
theorem cmpI_atR {m n:Nat} (h:X0 m n≥(0:Int)):n≤m:=by
 rcases Qh8 m n with⟨h1,e⟩|⟨h1,e⟩|⟨h1,e⟩<;>omega
theorem Qh7 {m n:Nat} (h:¬X0 m n≥(0:Int)):m≤n:=by
 rcases Qh8 m n with⟨h1,e⟩|⟨h1,e⟩|⟨h1,e⟩<;>omega
theorem pRef_eqS {x y:Rat} (h:x=y):∀w v,Qr x w v→Qr y w v:=fun _ _ k=>h▸k
theorem Qfg (x:Rat):∀w v1,Qr x w v1→Calls Tryz.prog 89 #[v1] w (Kb (Xl x.den) w):=fun w v1 h1=>Kt w v1 x h1
theorem Qg9 {m n j k:Nat} (hj:Bd j m) (hk:Bd k n) (h1:j≤1000000000) (h2:k≤1000000000):∀w v1 v2,Xl m w v1→Xl n w v2→Calls Tryz.prog 88 #[v1,v2] w (Kb (Xl (m*n)) w):=fun w v1 v2 a b=>Qa9 w v1 v2 m n a b hj hk h1 h2
theorem cn_plusS {m n j k:Nat} (hj:Bd j m) (hk:Bd k n) (h1:j≤1000000000) (h2:k≤1000000000):∀w v1 v2,Xl m w v1→Xl n w v2→Calls Tryz.prog 91 #[v1,v2] w (Kb (Xl (m+n)) w):=fun w v1 v2 a b=>sum_num w v1 v2 m n a b hj hk h1 h2
theorem cn_minusS {m n j:Nat} (hnm:n≤m) (hj:Bd j m) (h1:j≤1000000000):∀w v1 v2,Xl m w v1→Xl n w v2→Calls Tryz.prog 93 #[v1,v2] w (Kb (Xl (m-n)) w):=fun w v1 v2 a b=>difference_num w v1 v2 m n a b hnm hj h1
theorem cn_orderS (m n:Nat):∀w v1 v2,Xl m w v1→Xl n w v2→Calls Tryz.prog 92 #[v1,v2] w (Kb (pI (X0 m n)) w):=fun w v1 v2 a b=>(Vv w v1 v2 m n a b).mono fun _ _ h=>⟨_,h.1,rfl,h.2⟩
theorem cn_madeS {neg:Bool} {n d j:Nat} (hj:Bd j n) (hk:Bd j d) (hd:0<d) (hj1:j≤10000000):∀w v1 v2 v3,pB neg w v1→Xl n w v2→Xl d w v3→Calls Tryz.prog 90 #[v1,v2,v3] w (Kb (Qr (Yf neg n d)) w):=fun w v1 v2 v3 h1 h2 h3=>by
 have h1:v1=.bool neg:=h1
 rw[h1]
 exact Qeu w neg v2 v3 n d h2 h3 hd hj hk hj1
theorem cn_addS {x y:Rat} {j k:Nat} (hx:BdR j x) (hy:BdR k y) (hjk:j+k+j+k+1≤10000000):∀(M:Nat→Nat→Prop) (w:World) (v0 v1:Value),Mid M w→Box M (fun w=>(Qr x) w v0) w→Box M (fun w=>(Qr y) w v1) w→Calls Tryz.prog 51 #[v0,v1] w (RetB M (Qr (x+y)) w):=by
 intro M w0 v0 v1 hM hv0 hv1
 have b1:=(hx.1.mul hy.2).add (hy.1.mul hx.2)
 have b2:Bd (j+k+(k+j)+1) (x.num.natAbs*y.den-y.num.natAbs*x.den):=((hx.1.mul hy.2).mono (by omega)).le (Nat.sub_le _ _)
 have b3:Bd (j+k+(k+j)+1) (y.num.natAbs*x.den-x.num.natAbs*y.den):=((hy.1.mul hx.2).mono (by omega)).le (Nat.sub_le _ _)
 have b4:Bd (j+k+(k+j)+1) (x.den*y.den):=(hx.2.mul hy.2).mono (by omega)
 have hd:0<x.den*y.den:=Nat.mul_pos x.den_pos y.den_pos
 refine Q8 (N:=53) Tryz.func51 rfl rfl rfl hM (show EntsA M w0 [v0,v1] [⟨none,none,0,Qr x⟩,⟨none,none,1,Qr y⟩]from⟨⟨rfl,_,rfl,hv0⟩,⟨rfl,_,rfl,hv1⟩,trivial⟩) fun a hI=>?_
 refine Qbp (V1:=[⟨2,2,some 0,none,.ptr,42,3,true,pv (pS (Yx x)),[]⟩,⟨3,3,some 1,none,.ptr,42,3,true,pv (pS (Yx y)),[]⟩,⟨4,4,some 2,none,.ptr,42,3,true,pv Q4,[]⟩]) (A1:=[]) (G1:=[⟨none,none,0,Qr x⟩,⟨none,none,1,Qr y⟩]) (V2:=[⟨2,2,none,none,.ptr,42,3,true,pv (pS (Yx x)),[]⟩,⟨3,3,none,none,.ptr,42,3,true,pv (pS (Yx y)),[]⟩,⟨4,4,none,none,.ptr,42,3,true,pv Q4,[]⟩]) (G2:=[]) hI rfl rfl rfl [0,1,3] (by kernel_rfl) (by kernel_rfl) ?_ [0,1,2] [] rfl rfl fun a w hI=>?_
 ·exact⟨Qa8 0 rfl rfl (by kernel_rfl) (by kernel_rfl) rfl rfl rfl (.imp (.tmp 0 rfl rfl) (ref_S _)) (fits_refS _) rfl,Qa8 1 rfl rfl (by kernel_rfl) (by kernel_rfl) rfl rfl rfl (.imp (.tmp 1 rfl rfl) (ref_S _)) (fits_refS _) rfl,Jv 2 rfl rfl (by kernel_rfl) (by kernel_rfl) rfl rfl rfl zv_R rfl rfl (by simp[Yw]) rfl (fun _=>trivial),trivial⟩
 refine W3 (V1:=[⟨2,2,none,none,.ptr,42,3,true,pv (pS (Yx x)),[]⟩,⟨3,3,none,none,.ptr,42,3,true,pv (pS (Yx y)),[]⟩,⟨4,4,none,none,.ptr,42,3,true,pv Q4,[]⟩]) (A1:=[⟨some 0,8,2,1,True⟩,⟨some 5,13,3,1,True⟩]) (G1:=[⟨some 1,none,9,Xl x.num.natAbs⟩,⟨some 2,none,10,Qr y⟩,⟨some 3,none,11,Xl y.den⟩,⟨some 4,none,12,Xl (x.num.natAbs*y.den)⟩,⟨some 6,none,14,Xl y.num.natAbs⟩,⟨some 7,none,15,Qr x⟩,⟨some 8,none,16,Xl x.den⟩,⟨some 9,none,17,Xl (y.num.natAbs*x.den)⟩,⟨some 10,none,5,Xl (x.num.natAbs*y.den)⟩,⟨some 11,none,6,Xl (y.num.natAbs*x.den)⟩]) (V2:=[⟨2,2,none,none,.ptr,42,3,true,pv (pS (Yx x)),[]⟩,⟨3,3,none,none,.ptr,42,3,true,pv (pS (Yx y)),[]⟩,⟨4,4,none,none,.ptr,42,3,true,pv Q4,[]⟩]) (G2:=[⟨none,none,5,Xl (x.num.natAbs*y.den)⟩,⟨none,none,6,Xl (y.num.natAbs*x.den)⟩]) hI rfl rfl rfl [0,1,0,4,15,0,32,0,159,511,1023,2047] (by kernel_rfl) (by kernel_rfl) (by kernel_rfl) (by kernel_rfl) ?_ [0,1,2] [8,9] rfl rfl fun a w hI=>?_
 ·exact⟨Zw 0 rfl rfl rfl 0 rfl rfl rfl rfl (.inl ⟨rfl,rfl⟩) rfl (by kernel_rfl) (fun b w=>fa_R_1 b 0 w),Zs 0 rfl 0 rfl rfl rfl rfl rfl trivial rfl rfl (by kernel_rfl) ty_u32s rfl rfl (Wm (fs:=(Yx x)) 1 (f:=⟨false,1,Xl x.num.natAbs⟩) rfl (off:=1) rfl) (.here 0 rfl),Xy 1 rfl rfl rfl rfl (by kernel_rfl) Yc rfl (.at_ 1 _ _ rfl (S_ref _)),Qan (fun _ _=>by kernel_rfl) (J8 _) (.tmp 1 rfl rfl) (.here 2 rfl) (Qfg _),Kf (fun _ _=>by kernel_rfl) (J8 _) (.tmp 0 rfl rfl) (.tmp 2 rfl rfl) (.here 3 rfl) (Qg9 (hx).1 hy.2 (by omega) (by omega)),Zw 1 rfl rfl rfl 1 rfl rfl rfl rfl (.inl ⟨rfl,rfl⟩) rfl (by kernel_rfl) (fun b w=>fa_R_1 b 0 w),Zs 1 rfl 1 rfl rfl rfl rfl rfl trivial rfl rfl (by kernel_rfl) ty_u32s rfl rfl (Wm (fs:=(Yx y)) 1 (f:=⟨false,1,Xl y.num.natAbs⟩) rfl (off:=1) rfl) (.here 4 rfl),Xy 0 rfl rfl rfl rfl (by kernel_rfl) Yc rfl (.at_ 5 _ _ rfl (S_ref _)),Qan (fun _ _=>by kernel_rfl) (J8 _) (.tmp 5 rfl rfl) (.here 6 rfl) (Qfg _),Kf (fun _ _=>by kernel_rfl) (J8 _) (.tmp 4 rfl rfl) (.tmp 6 rfl rfl) (.here 7 rfl) (Qg9 (hy).1 hx.2 (by omega) (by omega)),Ys (.tmp 3 rfl rfl) (.here 8 rfl),Ys (.tmp 7 rfl rfl) (.here 9 rfl),trivial⟩
 refine W3 (V1:=[⟨2,2,none,none,.ptr,42,3,true,pv (pS (Yx x)),[]⟩,⟨3,3,none,none,.ptr,42,3,true,pv (pS (Yx y)),[]⟩,⟨4,4,none,none,.ptr,42,3,true,pv Q4,[]⟩]) (A1:=[]) (G1:=[⟨none,none,5,Xl (x.num.natAbs*y.den)⟩,⟨none,none,6,Xl (y.num.natAbs*x.den)⟩,⟨some 0,none,18,Qr x⟩,⟨some 1,none,19,Xl x.den⟩,⟨some 2,none,20,Qr y⟩,⟨some 3,none,21,Xl y.den⟩,⟨some 4,none,22,Xl (x.den*y.den)⟩,⟨some 5,none,7,Xl (x.den*y.den)⟩]) (V2:=[⟨2,2,none,none,.ptr,42,3,true,pv (pS (Yx x)),[]⟩,⟨3,3,none,none,.ptr,42,3,true,pv (pS (Yx y)),[]⟩,⟨4,4,none,none,.ptr,42,3,true,pv Q4,[]⟩]) (G2:=[⟨none,none,5,Xl (x.num.natAbs*y.den)⟩,⟨none,none,6,Xl (y.num.natAbs*x.den)⟩,⟨none,none,7,Xl (x.den*y.den)⟩]) hI rfl rfl rfl [0,1,0,7,15,31] (by kernel_rfl) (by kernel_rfl) (by kernel_rfl) (by kernel_rfl) ?_ [0,1,2] [0,1,7] rfl rfl fun a w hI=>?_
 ·exact⟨Xy 0 rfl rfl rfl rfl (by kernel_rfl) Yc rfl (.at_ 2 _ _ rfl (S_ref _)),Qan (fun _ _=>by kernel_rfl) (J8 _) (.tmp 2 rfl rfl) (.here 3 rfl) (Qfg _),Xy 1 rfl rfl rfl rfl (by kernel_rfl) Yc rfl (.at_ 4 _ _ rfl (S_ref _)),Qan (fun _ _=>by kernel_rfl) (J8 _) (.tmp 4 rfl rfl) (.here 5 rfl) (Qfg _),Kf (fun _ _=>by kernel_rfl) (J8 _) (.tmp 3 rfl rfl) (.tmp 5 rfl rfl) (.here 6 rfl) (Qg9 hx.2 hy.2 (by omega) (by omega)),Ys (.tmp 6 rfl rfl) (.here 7 rfl),trivial⟩
 refine wp_seq ?_
 refine Qbp (V1:=[⟨2,2,none,none,.ptr,42,3,true,pv (pS (Yx x)),[]⟩,⟨3,3,none,none,.ptr,42,3,true,pv (pS (Yx y)),[]⟩,⟨4,4,none,none,.ptr,42,3,true,pv Q4,[]⟩]) (A1:=[⟨some 0,23,2,0,True⟩,⟨some 2,25,3,0,True⟩]) (G1:=[⟨none,none,5,Xl (x.num.natAbs*y.den)⟩,⟨none,none,6,Xl (y.num.natAbs*x.den)⟩,⟨none,none,7,Xl (x.den*y.den)⟩,⟨some 1,none,24,pB (decide (x.num<0))⟩,⟨some 3,none,26,pB (decide (y.num<0))⟩,⟨some 4,none,27,pB ((decide (x.num<0))==(decide (y.num<0)))⟩]) (V2:=[⟨2,2,none,none,.ptr,42,3,true,pv (pS (Yx x)),[]⟩,⟨3,3,none,none,.ptr,42,3,true,pv (pS (Yx y)),[]⟩,⟨4,4,none,none,.ptr,42,3,true,pv Q4,[]⟩]) (G2:=[⟨none,none,5,Xl (x.num.natAbs*y.den)⟩,⟨none,none,6,Xl (y.num.natAbs*x.den)⟩,⟨none,none,7,Xl (x.den*y.den)⟩,⟨none,none,27,pB ((decide (x.num<0))==(decide (y.num<0)))⟩]) hI rfl rfl rfl [0,1,3,7,15] (by kernel_rfl) (by kernel_rfl) ?_ [0,1,2] [0,1,2,5] rfl rfl fun a w hI=>?_
 ·exact⟨Zw 0 rfl rfl rfl 0 rfl rfl rfl rfl (.inl ⟨rfl,rfl⟩) rfl (by kernel_rfl) (fun b w=>fa_R_0 b 0 w),Zs 0 rfl 0 rfl rfl rfl rfl rfl trivial rfl rfl (by kernel_rfl) Qaa rfl rfl (Wm (fs:=(Yx x)) 0 (f:=⟨false,1,pB (decide (x.num<0))⟩) rfl (off:=0) rfl) (.here 3 rfl),Zw 1 rfl rfl rfl 1 rfl rfl rfl rfl (.inl ⟨rfl,rfl⟩) rfl (by kernel_rfl) (fun b w=>fa_R_0 b 0 w),Zs 1 rfl 1 rfl rfl rfl rfl rfl trivial rfl rfl (by kernel_rfl) Qaa rfl rfl (Wm (fs:=(Yx y)) 0 (f:=⟨false,1,pB (decide (y.num<0))⟩) rfl (off:=0) rfl) (.here 4 rfl),Qik (v:=.bool ((decide (x.num<0))==(decide (y.num<0)))) (.tmp 3 rfl rfl) (.tmp 4 rfl rfl) (fun _=>by kernel_rfl) (.here 5 rfl),trivial⟩
 refine Xa hI 3 rfl (fun ht=>?_) (fun ht=>?_)
 ·have t1:=ht
  refine W3 (V1:=[⟨2,2,none,none,.ptr,42,3,true,pv (pS (Yx x)),[]⟩,⟨3,3,none,none,.ptr,42,3,true,pv (pS (Yx y)),[]⟩,⟨4,4,none,none,.ptr,42,3,true,pv Q4,[(7,pv (Qr (Yf (decide (x.num<0)) ((x.num.natAbs*y.den)+(y.num.natAbs*x.den)) (x.den*y.den))))]⟩]) (A1:=[⟨some 0,28,2,0,True⟩]) (G1:=[⟨none,none,5,Xl (x.num.natAbs*y.den)⟩,⟨none,none,6,Xl (y.num.natAbs*x.den)⟩,⟨none,none,7,Xl (x.den*y.den)⟩,⟨none,none,27,pB ((decide (x.num<0))==(decide (y.num<0)))⟩,⟨some 1,none,29,pB (decide (x.num<0))⟩,⟨some 2,none,30,Xl (x.num.natAbs*y.den)⟩,⟨some 3,none,31,Xl (y.num.natAbs*x.den)⟩,⟨some 4,none,32,Xl ((x.num.natAbs*y.den)+(y.num.natAbs*x.den))⟩,⟨some 5,none,33,Xl (x.den*y.den)⟩,⟨some 6,none,34,Qr (Yf (decide (x.num<0)) ((x.num.natAbs*y.den)+(y.num.natAbs*x.den)) (x.den*y.den))⟩]) (V2:=[⟨2,2,none,none,.ptr,42,3,true,pv (pS (Yx x)),[]⟩,⟨3,3,none,none,.ptr,42,3,true,pv (pS (Yx y)),[]⟩,⟨4,4,none,none,.ptr,42,3,true,pv (Qr (Yf (decide (x.num<0)) ((x.num.natAbs*y.den)+(y.num.natAbs*x.den)) (x.den*y.den))),[]⟩]) (G2:=[⟨none,none,5,Xl (x.num.natAbs*y.den)⟩,⟨none,none,6,Xl (y.num.natAbs*x.den)⟩,⟨none,none,7,Xl (x.den*y.den)⟩]) hI rfl rfl rfl [0,1,0,0,12,0,63,127] (by kernel_rfl) (by kernel_rfl) (by kernel_rfl) (by kernel_rfl) ?_ [0,1,2] [0,1,2] rfl rfl fun a w hI=>?_
  ·exact⟨Zw 0 rfl rfl rfl 0 rfl rfl rfl rfl (.inl ⟨rfl,rfl⟩) rfl (by kernel_rfl) (fun b w=>fa_R_0 b 0 w),Zs 0 rfl 0 rfl rfl rfl rfl rfl trivial rfl rfl (by kernel_rfl) Qaa rfl rfl (Wm (fs:=(Yx x)) 0 (f:=⟨false,1,pB (decide (x.num<0))⟩) rfl (off:=0) rfl) (.here 4 rfl),Qx (.tmp 0 rfl rfl) (.here 5 rfl),Qx (.tmp 1 rfl rfl) (.here 6 rfl),Kf (fun _ _=>by kernel_rfl) (J8 _) (.tmp 5 rfl rfl) (.tmp 6 rfl rfl) (.here 7 rfl) (cn_plusS (((hx).1).mul hy.2) (((hy).1).mul hx.2) (by omega) (by omega)),Qx (.tmp 2 rfl rfl) (.here 8 rfl),Qc0 (fun _ _=>by kernel_rfl) (X3 _) (.tmp 4 rfl rfl) (.tmp 7 rfl rfl) (.tmp 8 rfl rfl) (.here 9 rfl) (cn_madeS b1 b4 hd (by omega)),Za 2 rfl rfl rfl rfl 0 rfl (by kernel_rfl) (by kernel_rfl) Yc (.tmp 9 rfl rfl) (Xt _),trivial⟩
  refine wp_ret ?_
  refine Xf ?_
  exact Zu hI rfl (.imp (.cell 2 rfl rfl rfl rfl Yc rfl) (pRef_eqS (Qf6 x y (beq_iff_eq.1 t1)).symm))
 ·have t2:=ht
  refine wp_skip ?_
  refine Qb ?_
  refine wp_seq ?_
  refine Qbp (V1:=[⟨2,2,none,none,.ptr,42,3,true,pv (pS (Yx x)),[]⟩,⟨3,3,none,none,.ptr,42,3,true,pv (pS (Yx y)),[]⟩,⟨4,4,none,none,.ptr,42,3,true,pv Q4,[]⟩]) (A1:=[]) (G1:=[⟨none,none,5,Xl (x.num.natAbs*y.den)⟩,⟨none,none,6,Xl (y.num.natAbs*x.den)⟩,⟨none,none,7,Xl (x.den*y.den)⟩,⟨none,none,27,pB ((decide (x.num<0))==(decide (y.num<0)))⟩,⟨some 0,none,35,Xl (x.num.natAbs*y.den)⟩,⟨some 1,none,36,Xl (y.num.natAbs*x.den)⟩,⟨some 2,none,37,pI (X0 (x.num.natAbs*y.den) (y.num.natAbs*x.den))⟩,⟨some 3,none,38,pB (decide ((X0 (x.num.natAbs*y.den) (y.num.natAbs*x.den))≥(0:Int)))⟩]) (V2:=[⟨2,2,none,none,.ptr,42,3,true,pv (pS (Yx x)),[]⟩,⟨3,3,none,none,.ptr,42,3,true,pv (pS (Yx y)),[]⟩,⟨4,4,none,none,.ptr,42,3,true,pv Q4,[]⟩]) (G2:=[⟨none,none,5,Xl (x.num.natAbs*y.den)⟩,⟨none,none,6,Xl (y.num.natAbs*x.den)⟩,⟨none,none,7,Xl (x.den*y.den)⟩,⟨none,none,38,pB (decide ((X0 (x.num.natAbs*y.den) (y.num.natAbs*x.den))≥(0:Int)))⟩]) hI rfl rfl rfl [0,1,3,7] (by kernel_rfl) (by kernel_rfl) ?_ [0,1,2] [0,1,2,7] rfl rfl fun a w hI=>?_
  ·exact⟨Qx (.tmp 0 rfl rfl) (.here 4 rfl),Qx (.tmp 1 rfl rfl) (.here 5 rfl),Kf (fun _ _=>by kernel_rfl) (Y2 _) (.tmp 4 rfl rfl) (.tmp 5 rfl rfl) (.here 6 rfl) (cn_orderS _ _),Q6 (v:=.bool (decide ((X0 (x.num.natAbs*y.den) (y.num.natAbs*x.den))≥(0:Int)))) (.tmp 6 rfl rfl) (.const _) (fun _=>rfl) (.here 7 rfl),trivial⟩
  refine Xa hI 3 rfl (fun ht=>?_) (fun ht=>?_)
  ·have t3:=of_decide_eq_true ht
   refine W3 (V1:=[⟨2,2,none,none,.ptr,42,3,true,pv (pS (Yx x)),[]⟩,⟨3,3,none,none,.ptr,42,3,true,pv (pS (Yx y)),[]⟩,⟨4,4,none,none,.ptr,42,3,true,pv Q4,[(7,pv (Qr (Yf (decide (x.num<0)) ((x.num.natAbs*y.den)-(y.num.natAbs*x.den)) (x.den*y.den))))]⟩]) (A1:=[⟨some 0,39,2,0,True⟩]) (G1:=[⟨none,none,5,Xl (x.num.natAbs*y.den)⟩,⟨none,none,6,Xl (y.num.natAbs*x.den)⟩,⟨none,none,7,Xl (x.den*y.den)⟩,⟨none,none,38,pB (decide ((X0 (x.num.natAbs*y.den) (y.num.natAbs*x.den))≥(0:Int)))⟩,⟨some 1,none,40,pB (decide (x.num<0))⟩,⟨some 2,none,41,Xl (x.num.natAbs*y.den)⟩,⟨some 3,none,42,Xl (y.num.natAbs*x.den)⟩,⟨some 4,none,43,Xl ((x.num.natAbs*y.den)-(y.num.natAbs*x.den))⟩,⟨some 5,none,44,Xl (x.den*y.den)⟩,⟨some 6,none,45,Qr (Yf (decide (x.num<0)) ((x.num.natAbs*y.den)-(y.num.natAbs*x.den)) (x.den*y.den))⟩]) (V2:=[⟨2,2,none,none,.ptr,42,3,true,pv (pS (Yx x)),[]⟩,⟨3,3,none,none,.ptr,42,3,true,pv (pS (Yx y)),[]⟩,⟨4,4,none,none,.ptr,42,3,true,pv (Qr (Yf (decide (x.num<0)) ((x.num.natAbs*y.den)-(y.num.natAbs*x.den)) (x.den*y.den))),[]⟩]) (G2:=[⟨none,none,5,Xl (x.num.natAbs*y.den)⟩,⟨none,none,6,Xl (y.num.natAbs*x.den)⟩,⟨none,none,7,Xl (x.den*y.den)⟩]) hI rfl rfl rfl [0,1,0,0,12,0,63,127] (by kernel_rfl) (by kernel_rfl) (by kernel_rfl) (by kernel_rfl) ?_ [0,1,2] [0,1,2] rfl rfl fun a w hI=>?_
   ·exact⟨Zw 0 rfl rfl rfl 0 rfl rfl rfl rfl (.inl ⟨rfl,rfl⟩) rfl (by kernel_rfl) (fun b w=>fa_R_0 b 0 w),Zs 0 rfl 0 rfl rfl rfl rfl rfl trivial rfl rfl (by kernel_rfl) Qaa rfl rfl (Wm (fs:=(Yx x)) 0 (f:=⟨false,1,pB (decide (x.num<0))⟩) rfl (off:=0) rfl) (.here 4 rfl),Qx (.tmp 0 rfl rfl) (.here 5 rfl),Qx (.tmp 1 rfl rfl) (.here 6 rfl),Kf (fun _ _=>by kernel_rfl) (J8 _) (.tmp 5 rfl rfl) (.tmp 6 rfl rfl) (.here 7 rfl) (cn_minusS (cmpI_atR t3) (((hx).1).mul hy.2) (by omega)),Qx (.tmp 2 rfl rfl) (.here 8 rfl),Qc0 (fun _ _=>by kernel_rfl) (X3 _) (.tmp 4 rfl rfl) (.tmp 7 rfl rfl) (.tmp 8 rfl rfl) (.here 9 rfl) (cn_madeS b2 b4 hd (by omega)),Za 2 rfl rfl rfl rfl 0 rfl (by kernel_rfl) (by kernel_rfl) Yc (.tmp 9 rfl rfl) (Xt _),trivial⟩
   refine wp_ret ?_
   refine Xf ?_
   exact Zu hI rfl (.imp (.cell 2 rfl rfl rfl rfl Yc rfl) (pRef_eqS (add_ge x y (beq_eq_false_iff_ne.1 t2) (cmpI_atR t3)).symm))
  ·have t4:=of_decide_eq_false ht
   refine wp_skip ?_
   refine Qb ?_
   refine W3 (V1:=[⟨2,2,none,none,.ptr,42,3,true,pv (pS (Yx x)),[]⟩,⟨3,3,none,none,.ptr,42,3,true,pv (pS (Yx y)),[]⟩,⟨4,4,none,none,.ptr,42,3,true,pv Q4,[(7,pv (Qr (Yf (decide (y.num<0)) ((y.num.natAbs*x.den)-(x.num.natAbs*y.den)) (x.den*y.den))))]⟩]) (A1:=[⟨some 0,46,3,0,True⟩]) (G1:=[⟨none,none,5,Xl (x.num.natAbs*y.den)⟩,⟨none,none,6,Xl (y.num.natAbs*x.den)⟩,⟨none,none,7,Xl (x.den*y.den)⟩,⟨none,none,38,pB (decide ((X0 (x.num.natAbs*y.den) (y.num.natAbs*x.den))≥(0:Int)))⟩,⟨some 1,none,47,pB (decide (y.num<0))⟩,⟨some 2,none,48,Xl (y.num.natAbs*x.den)⟩,⟨some 3,none,49,Xl (x.num.natAbs*y.den)⟩,⟨some 4,none,50,Xl ((y.num.natAbs*x.den)-(x.num.natAbs*y.den))⟩,⟨some 5,none,51,Xl (x.den*y.den)⟩,⟨some 6,none,52,Qr (Yf (decide (y.num<0)) ((y.num.natAbs*x.den)-(x.num.natAbs*y.den)) (x.den*y.den))⟩]) (V2:=[⟨2,2,none,none,.ptr,42,3,true,pv (pS (Yx x)),[]⟩,⟨3,3,none,none,.ptr,42,3,true,pv (pS (Yx y)),[]⟩,⟨4,4,none,none,.ptr,42,3,true,pv (Qr (Yf (decide (y.num<0)) ((y.num.natAbs*x.den)-(x.num.natAbs*y.den)) (x.den*y.den))),[]⟩]) (G2:=[]) hI rfl rfl rfl [0,1,0,0,12,0,63,127] (by kernel_rfl) (by kernel_rfl) (by kernel_rfl) (by kernel_rfl) ?_ [0,1,2] [] rfl rfl fun a w hI=>?_
   ·exact⟨Zw 1 rfl rfl rfl 0 rfl rfl rfl rfl (.inl ⟨rfl,rfl⟩) rfl (by kernel_rfl) (fun b w=>fa_R_0 b 0 w),Zs 1 rfl 0 rfl rfl rfl rfl rfl trivial rfl rfl (by kernel_rfl) Qaa rfl rfl (Wm (fs:=(Yx y)) 0 (f:=⟨false,1,pB (decide (y.num<0))⟩) rfl (off:=0) rfl) (.here 4 rfl),Qx (.tmp 1 rfl rfl) (.here 5 rfl),Qx (.tmp 0 rfl rfl) (.here 6 rfl),Kf (fun _ _=>by kernel_rfl) (J8 _) (.tmp 5 rfl rfl) (.tmp 6 rfl rfl) (.here 7 rfl) (cn_minusS (Qh7 t4) (((hy).1).mul hx.2) (by omega)),Qx (.tmp 2 rfl rfl) (.here 8 rfl),Qc0 (fun _ _=>by kernel_rfl) (X3 _) (.tmp 4 rfl rfl) (.tmp 7 rfl rfl) (.tmp 8 rfl rfl) (.here 9 rfl) (cn_madeS b3 b4 hd (by omega)),Za 2 rfl rfl rfl rfl 0 rfl (by kernel_rfl) (by kernel_rfl) Yc (.tmp 9 rfl rfl) (Xt _),trivial⟩
   refine wp_ret ?_
   exact Zu hI rfl (.imp (.cell 2 rfl rfl rfl rfl Yc rfl) (pRef_eqS (add_lt x y (beq_eq_false_iff_ne.1 t2) (Qh7 t4)).symm))
theorem nadd_num (w:World) (vx vy:Value) (x y:Rat) (hx:IsRef w vx x) (hy:IsRef w vy y) {j k:Nat} (hj:BdR j x) (hk:BdR k y) (hjk:j+k+j+k+1≤10000000):Calls Tryz.prog 51 #[vx,vy] w (Qa3 w (x+y)):=
 (cn_addS hj hk hjk (fun _ _=>False) w vx vy (Qaj w) (X3 x _ w vx (Qaj w) hx) (X3 y _ w vy (Qaj w) hy)).mono fun _ _ h=>h.ret
end Wx

namespace Wx
open Go Go.RowKit Go.Proofs

end Wx

namespace Wx
open Go Go.RowKit Go.Proofs

end Wx

namespace Wx
open Go Go.RowKit Go.Proofs

end Wx

namespace Wx
open Go Go.RowKit Go.Proofs

theorem ret_fe {w:World} {q:Rat} {n:Int} {e:Ending} {w':World} (h:RetFE w q n e w'):Kb (Xr (Qr q) (pI n)) w e w':=by
 obtain⟨v,rfl,h1,h2⟩:=h
 exact⟨_,rfl,⟨v,_,rfl,h1,rfl⟩,h2⟩
theorem cn_add {x y:Rat} {j k:Nat} (hx:BdR j x) (hy:BdR k y) (h:j+k+j+k+1≤10000000):∀w v1 v2,Qr x w v1→Qr y w v2→Calls Tryz.prog 51 #[v1,v2] w (Kb (Qr (x+y)) w):=
 fun w v1 v2 h1 h2=>nadd_num w v1 v2 x y h1 h2 hx hy h
theorem cn_mul {x y:Rat} {j k:Nat} (hx:BdR j x) (hy:BdR k y) (h:j+k≤10000000):∀w v1 v2,Qr x w v1→Qr y w v2→Calls Tryz.prog 52 #[v1,v2] w (Kb (Qr (x*y)) w):=
 fun w v1 v2 h1 h2=>nmul_num w v1 v2 x y h1 h2 hx hy h
theorem cn_div_ok {x y:Rat} {j k:Nat} (hx:BdR j x) (hy:BdR k y) (h:j+k≤10000000) (h0:y≠0):∀w v1 v2,Qr x w v1→Qr y w v2→Calls Tryz.prog 67 #[v1,v2] w (Kb (Xr (Qr (x/y)) (pI 0)) w):=
 fun w v1 v2 h1 h2=>(ndiv_num w v1 v2 x y h1 h2 (fun h=>h0 ((Qal y).1 (by omega))) hx hy h).mono fun _ _=>ret_fe
theorem cn_neg (x:Rat):∀w v1,Qr x w v1→Calls Tryz.prog 83 #[v1] w (Kb (Qr (-x)) w):=fun w v1 h1=>nneg_num w v1 x h1
theorem cn_zero (x:Rat):∀w v1,Qr x w v1→Calls Tryz.prog 66 #[v1] w (Kb (pB (decide (x=0))) w):=fun w v1 h1=>(Qhm w v1 x h1).mono fun _ _=>ret_is
theorem Qce (n:Int) (h1:-9223372036854775808≤n) (h2:n≤9223372036854775807):∀w v1,pI n w v1→Calls Tryz.prog 60 #[v1] w (Kb (Qr (n:Rat)) w):=fun w v1 h=>by
 have h:v1=.int .i64 n:=h
 rw[h]
 exact nint_num w n h1 h2
theorem c_is {x y:Rat} {j:Nat} (hx:BdR j x) (hj:j≤100000000) (h:x=y):∀w v1 v2,Qv x w v1→Qr y w v2→Calls Tryz.prog 23 #[v1,v2] w (Kb (pB true) w):=fun w v1 v2 h1 h2=>by
 subst h
 exact(is_yes w v1 v2 x h1 h2 hx hj).mono fun _ _=>ret_is
end Wx

namespace Wx
attribute [local irreducible] Q0
set_option maxRecDepth 100000
open Go Go.RowKit Go.Proofs
set_option linter.unusedVariables false

structure BI where
 k:Nat
 R:List RowL
 H:List Bk
theorem Qcp {A:List (List Rat)} {j:Nat} (h0:0<A.length) (hA:A.length≤1000000) (hn:(A.getD 0 []).length≤1000000) (hr:∀i,i<A.length→(A.getD i []).length=(A.getD 0 []).length) (hb:∀i k,BdR j ((A.getD i []).getD k 0)):∀(M:Nat→Nat→Prop) (w:World) (v0:Value),Mid M w→Box M (fun w=>(Qc 1 false A.length (fun i=>Qe (A.getD i []))) w v0) w→Calls Tryz.prog 53 #[v0] w (RetB M (Qc 1 false (A.getD 0 []).length (fun i=>Qe ((Qq A).getD i []))) w):=by
 intro M w0 v0 hM hv0
 refine Yk (N:=39) Tryz.func53 rfl rfl rfl hM (show EntsA M w0 [v0] [⟨none,none,0,Qc 1 false A.length (fun i=>Qe (A.getD i []))⟩]from⟨⟨rfl,_,rfl,hv0⟩,trivial⟩) fun a hI=>?_
 refine Qj hI 1 [Uc 0 2 _] (.k .z) ⟨mv,trivial⟩ (.kk .z) fun a w hI=>?_
 refine Vz hI [⟨11,11,some 4,none,.obj,0,0,false,pMade 1 false (A.getD 0 []).length (Zm (.slice none 0 0)),[]⟩] [] [⟨some 0,none,7,Qc 1 false A.length (fun i=>Qe (A.getD i []))⟩,⟨some 1,none,8,Wr 1 false (Qe (A.getD 0 []))⟩,⟨some 2,none,9,Qe (A.getD 0 [])⟩,⟨some 3,none,10,pI ((A.getD 0 []).length:Int)⟩] .z (.kk .z) rfl [0,1,3,7,15,31] 5 (by kernel_rfl) ?_ (.k .z) (.kkdd (.dd .z)) (fun a w hI=>hI.openMade 0 rfl (by kernel_rfl)) (⟨_,U2 fun l hC a w hI=>Jw hI [] [⟨some 0,none,3,Qi (.slice (some ⟨l,0,none⟩) ((A.getD 0 []).length) ((A.getD 0 []).length))⟩] (.k .z) (.kkk .z) (by kernel_rfl) (Ys (.tmp 0 rfl rfl) (.here 3 rfl)) (.k .z) (.dkkk .z),
   rfl⟩) ?_
 ·exact⟨Qx (.tmp 0 rfl rfl) (.here 2 rfl),Jo (.tmp 2 rfl rfl) (.const _) Qt (by omega) (by omega) (by kernel_rfl) (.here 3 rfl),Q5 (.tmp 3 rfl rfl) Xn ((Yj _)) (.here 4 rfl),Qm (.tmp 4 rfl rfl) (Xb).under (.here 5 rfl),Qbg (zv:=.slice none 0 0) (z:=[.slice none 0 0]) 0 rfl rfl rfl rfl rfl (by kernel_rfl) (.tmp 5 rfl rfl) (.tmp 5 rfl rfl) (Qt).under (by kernel_rfl) rfl rfl (by omega) (fun u hu=>by rw[List.mem_singleton.1 hu]; exact Jz _ _ _) (fun _=>rfl) (by omega) (.none (by kernel_rfl)),trivial⟩
 ·rintro a w ⟨g,hC,hI⟩
  have hC:True:=hC
  refine wp_seq ?_
  refine Q3 hI 3 [] [] [Uc 0 12 _,Uc 1 13 (pI ((A.getD 0 []).length:Int)),Uc 2 14 _] (.k .z) (.kkk .z) ⟨mv,Uz (.tmp 3 rfl rfl) (Qt).under (.here 4 rfl),mv,trivial⟩ (.k .z) (.kkkd (.kk .z)) fun a w hI=>?_
  refine wp_block ?_
  refine Q9 (fun(q:BI) a w=>(q.k≤(A.getD 0 []).length∧BldOk g (A.getD 0 []).length q.R (Vg A (A.getD 0 []).length q.k 0) q.H)∧Inv ⟨39,w0,M,fun _=>False⟩ [⟨11,11,none,none,.obj,0,0,false,Zo q.H,[]⟩] [] [⟨none,none,0,Qc 1 false A.length (fun i=>Qe (A.getD i []))⟩,⟨none,none,2,Qi ((Value.slice none 0 0))⟩,⟨none,none,3,Qi (.slice (some ⟨g,0,none⟩) ((A.getD 0 []).length) ((A.getD 0 []).length))⟩,⟨none,none,13,pI ((A.getD 0 []).length:Int)⟩,⟨none,none,14,pI (q.k:Int)⟩] Qf a w) (fun(q:BI)=>(A.getD 0 []).length-q.k) (⟨0,List.replicate (A.getD 0 []).length ⟨0,0,0⟩,[⟨g,1,false,List.replicate (A.getD 0 []).length (Zm (.slice none 0 0))⟩]⟩) ⟨⟨Nat.zero_le _,by have h:=bld_nil g (A.getD 0 []).length; rw[← bldX_zero (A:=A)]at h; exact h⟩,(hI.conv ⟨⟨0,_,_,rfl,⟨rfl,rfl,rfl⟩,rfl,fun _=>(fun _ _ h=>h)⟩,trivial⟩ ⟨⟨rfl,rfl,0,_,rfl,fun _ _ h=>h⟩,⟨rfl,rfl,1,_,rfl,fun _ _ h=>h⟩,⟨rfl,rfl,2,_,rfl,fun _ _ h=>h⟩,⟨rfl,rfl,3,_,rfl,fun _ _ h=>h⟩,⟨rfl,rfl,4,_,rfl,(Qw rfl)⟩,trivial⟩)⟩ ?_
  intro q a w hIk
  obtain⟨⟨hk,hB⟩,hI⟩:=hIk
  refine Q3 hI 1 [] [] [Uc 0 15 _] (.k .z) (.kkkk (.k .z)) ⟨bl,trivial⟩ (.k .z) (.kkkk (.kk .z)) fun a w hI=>?_
  refine wp_seq ?_
  refine Xa hI 5 rfl (fun ht=>?_) (fun ht=>?_)
  ·have t1:=of_decide_eq_true ht
   refine wp_skip ?_
   refine Qb ?_
   refine wp_seq ?_
   refine wp_block ?_
   refine Q3 hI 2 [] [] [Uc 0 16 _,Uc 1 4 _] (.k .z) (.kkkk (.kk .z)) ⟨mv,mv,trivial⟩ (.k .z) (.kkkk (.kddk .z)) fun a w hI=>?_
   refine Q3 hI 3 [] [] [Uc 0 17 _,Uc 1 18 (pI (A.length:Int)),Uc 2 19 _] (.k .z) (.kkkk (.kk .z)) ⟨mv,Qm (.tmp 6 rfl rfl) (Qt).under (.here 7 rfl),mv,trivial⟩ (.k .z) (.k8 (.k .z)) fun a w hI=>?_
   refine wp_block ?_
   refine Q9 (fun(q2:BI) a w=>(q2.k≤A.length∧BldOk g (A.getD 0 []).length q2.R (Vg A (A.getD 0 []).length q.k q2.k) q2.H)∧Inv ⟨39,w0,M,fun _=>False⟩ [⟨11,11,none,none,.obj,0,0,false,Zo q2.H,[]⟩] [] [⟨none,none,0,Qc 1 false A.length (fun i=>Qe (A.getD i []))⟩,⟨none,none,2,Qi ((Value.slice none 0 0))⟩,⟨none,none,3,Qi (.slice (some ⟨g,0,none⟩) ((A.getD 0 []).length) ((A.getD 0 []).length))⟩,⟨none,none,13,pI ((A.getD 0 []).length:Int)⟩,⟨none,none,14,pI (q.k:Int)⟩,⟨none,none,4,pI (q.k:Int)⟩,⟨none,none,17,Qc 1 false A.length (fun i=>Qe (A.getD i []))⟩,⟨none,none,18,pI (A.length:Int)⟩,⟨none,none,19,pI (q2.k:Int)⟩] Qf a w) (fun(q2:BI)=>A.length-q2.k) (⟨0,q.R,q.H⟩) ⟨⟨Nat.zero_le _,hB⟩,(hI.conv ⟨⟨0,_,_,rfl,⟨rfl,rfl,rfl⟩,rfl,fun _=>(fun _ _ h=>h)⟩,trivial⟩ ⟨⟨rfl,rfl,0,_,rfl,fun _ _ h=>h⟩,⟨rfl,rfl,1,_,rfl,fun _ _ h=>h⟩,⟨rfl,rfl,2,_,rfl,fun _ _ h=>h⟩,⟨rfl,rfl,3,_,rfl,fun _ _ h=>h⟩,⟨rfl,rfl,4,_,rfl,fun _ _ h=>h⟩,⟨rfl,rfl,5,_,rfl,fun _ _ h=>h⟩,⟨rfl,rfl,6,_,rfl,fun _ _ h=>h⟩,⟨rfl,rfl,7,_,rfl,fun _ _ h=>h⟩,⟨rfl,rfl,8,_,rfl,(Qw rfl)⟩,trivial⟩)⟩ ?_
   intro q2 a w hIk
   obtain⟨⟨hk2,hB2⟩,hI⟩:=hIk
   refine Q3 hI 1 [] [] [Uc 0 20 _] (.k .z) (.k8 (.k .z)) ⟨bl,trivial⟩ (.k .z) (.k8 (.kk .z)) fun a w hI=>?_
   refine wp_seq ?_
   refine Xa hI 9 rfl (fun ht=>?_) (fun ht=>?_)
   ·have t2:=of_decide_eq_true ht
    refine wp_skip ?_
    refine Qb ?_
    refine wp_seq ?_
    refine wp_block ?_
    refine Q3 hI 3 [] [] [Uc 0 21 _,Uc 1 22 (Qe (A.getD q2.k [])),Uc 2 6 _] (.k .z) (.k8 (.kk .z)) ⟨Ky Qt,Q5 (.tmp 10 rfl rfl) Xn ((Yj _)) (.here 11 rfl),mv,trivial⟩ (.k .z) (.k8 (.kddd (.k .z))) fun a w hI=>?_
    have hl:=hr q2.k (by omega)
    refine sem_SD hI [⟨34,34,some 11,none,.obj,0,0,false,pApp q2.H (hdr0 (Xe q2.R q.k)) ((Vg A (A.getD 0 []).length q.k q2.k).getD q.k []) [(A.getD q2.k []).getD q.k 0],[]⟩] [] [⟨some 0,none,23,Qi (.slice (some ⟨g,0,none⟩) ((A.getD 0 []).length) ((A.getD 0 []).length))⟩,⟨some 1,none,24,pI (q.k:Int)⟩,⟨some 2,none,25,Qi (.slice (some ⟨g,0,none⟩) ((A.getD 0 []).length) ((A.getD 0 []).length))⟩,⟨some 3,none,26,pI (q.k:Int)⟩,⟨some 4,none,27,Qi (.pointer (some ⟨g,0+((q.k:Int)).toNat*1,none⟩))⟩,⟨some 5,none,28,Qi (hdr0 (Xe q2.R q.k))⟩,⟨some 6,none,29,Qe (A.getD q2.k [])⟩,⟨some 7,none,30,pI (q.k:Int)⟩,⟨some 8,none,31,Wr 3 true (Qv ((A.getD q2.k []).getD q.k 0))⟩,⟨some 9,none,32,Qv ((A.getD q2.k []).getD q.k 0)⟩,⟨some 10,none,33,Qe ([(A.getD q2.k []).getD q.k 0])⟩] (.u (some 11) [] .z) (.k8 (.kk .z)) rfl [0,0,0,0,12,28,0,0,192,448,960,2044,4095,8191] 12 (by kernel_rfl) ?_ (.d (.k .z)) (.k8 (.kdkk (.d8 (.d .z)))) (fun a w hI=>hI.openApp 0 rfl (by kernel_rfl)) (⟨_,U2 fun l hC a w hI=>Jw hI [] [⟨some 0,none,35,Qi (.pointer (some ⟨g,0+((q.k:Int)).toNat*1,none⟩))⟩] (.k .z) (.k8 (.kkkk .z)) (by kernel_rfl) (Qs (.tmp 10 rfl rfl) (.tmp 11 rfl rfl) Qt (by omega) (by omega) (by kernel_rfl) (.here 12 rfl)) (.k .z) (.k8 (.kkdd (.k .z))),
      _,U2 fun l hC a w hI=>Jw hI [] [] (.u none [(0,Zo (Ye (Kz q2.H l.b (Xj ((Vg A (A.getD 0 []).length q.k q2.k).getD q.k []++[(A.getD q2.k []).getD q.k 0]) l.cap)) g q.k (Zm l.hdr)))] .z) (.k8 (.kkk .z)) (by kernel_rfl) (Zn (e:=⟨g,1,false,J3 q2.R⟩) (idx:=q.k) (it:=Zm l.hdr) 0 rfl rfl rfl (by kernel_rfl) 0 rfl (by kernel_rfl) (by kernel_rfl) rfl (.tmp 10 rfl rfl) (Vk hB2.top (hB2.off (by omega) hC.2.2.2)) rfl (by rw[Qb9]; have:=hB2.len.1; omega) (show 0+((q.k:Int)).toNat*1=q.k*1 by omega) Xn (.tmp 0 rfl rfl) (Vo _ _ _)) (.s .o .z) (.dkkk (.kkkk (.kkd .z))),
      rfl⟩) ?_
    ·exact⟨Qx (.tmp 2 rfl rfl) (.here 10 rfl),Qx (.tmp 5 rfl rfl) (.here 11 rfl),Qx (.tmp 2 rfl rfl) (.here 12 rfl),Qx (.tmp 5 rfl rfl) (.here 13 rfl),Qs (.tmp 12 rfl rfl) (.tmp 13 rfl rfl) Qt (by omega) (by omega) (by kernel_rfl) (.here 14 rfl),Yv (e:=⟨g,1,false,J3 q2.R⟩) (idx:=q.k) 0 rfl rfl rfl (by kernel_rfl) rfl (.tmp 14 rfl rfl) hB2.top rfl (Qb8 (by have:=hB2.len.1; omega)) (show 0+((q.k:Int)).toNat*1=q.k*1 by omega) Xn (.here 15 rfl),Qx (.tmp 9 rfl rfl) (.here 16 rfl),Qx (.tmp 5 rfl rfl) (.here 17 rfl),Jo (.tmp 16 rfl rfl) (.tmp 17 rfl rfl) Xb (by omega) (by omega) (by kernel_rfl) (.at_ 18 _ _ rfl (by rw[Int.toNat_natCast]; exact fun _ _ h=>h)),Q5 (.tmp 18 rfl rfl) Xx (Ym _) (.here 19 rfl),Qbf (fs:=List.replicate 1 ⟨true,3,Qv 0⟩) (ps:=[(0,Qv ((A.getD q2.k []).getD q.k 0))]) (gs:=[(A.getD q2.k []).getD q.k 0].map fun q=>⟨true,3,Qv q⟩) Xb Ub rfl rfl rfl (fun w=>Jd w) rfl (show Qbi _ _ _ _ _ _ from⟨⟨rfl,(.tmp 19 rfl rfl),_,rfl,Ym _⟩,trivial⟩) rfl (fun i=>Qv ([(A.getD q2.k []).getD q.k 0].getD i 0)) (rats_fd _) (.here 20 rfl),op_appendH 0 rfl rfl rfl rfl (by kernel_rfl) rfl 1 rfl rfl rfl rfl rfl (by kernel_rfl) (.tmp 15 rfl rfl) (.tmp 20 rfl rfl) (hB2.case (by omega)) Qdx Nat.one_pos (by rw[bldX_get (by omega),if_neg (Nat.lt_irrefl _),if_pos rfl,List.length_take]; show _+1≤_; omega) (.none (by kernel_rfl)),trivial⟩
    ·rintro a w ⟨l,hC,hI⟩
     have hC:AppOk q2.H (hdr0 (Xe q2.R q.k)) ((Vg A (A.getD 0 []).length q.k q2.k).getD q.k []) [(A.getD q2.k []).getD q.k 0] l:=hC
     refine Xo ?_
     refine Qb ?_
     refine Z3 hI 2 [] [] [Uc 0 36 _,Uc 1 19 _] (.k .z) (.k8 (.t 1 .z)) ⟨bl,mv,trivial⟩ (.k .z) (.k8 (.ddk .z)) fun a w hI=>?_
     refine Qb ?_
     replace hI:=hI.reobj 11 11 (n0:=0) rfl (by kernel_rfl) (by kernel_rfl)
     exact⟨⟨q2.k+1,q2.R.set q.k l,Ye (Kz q2.H l.b (Xj ((Vg A (A.getD 0 []).length q.k q2.k).getD q.k []++[(A.getD q2.k []).getD q.k 0]) l.cap)) g q.k (Zm l.hdr)⟩,⟨⟨by show q2.k+1≤A.length; omega,by have h:=hB2.append (l':=[(A.getD q2.k []).getD q.k 0]) (by omega) Nat.one_pos hC; rw[bldX_step (by omega) (by omega)]at h; exact h⟩,(hI.conv ⟨⟨0,_,_,rfl,⟨rfl,rfl,rfl⟩,rfl,fun _=>fun _ _ h=>h⟩,trivial⟩ ⟨⟨rfl,rfl,0,_,rfl,fun _ _ h=>h⟩,⟨rfl,rfl,1,_,rfl,fun _ _ h=>h⟩,⟨rfl,rfl,2,_,rfl,fun _ _ h=>h⟩,⟨rfl,rfl,3,_,rfl,fun _ _ h=>h⟩,⟨rfl,rfl,4,_,rfl,fun _ _ h=>h⟩,⟨rfl,rfl,5,_,rfl,fun _ _ h=>h⟩,⟨rfl,rfl,6,_,rfl,fun _ _ h=>h⟩,⟨rfl,rfl,7,_,rfl,fun _ _ h=>h⟩,⟨rfl,rfl,8,_,rfl,(Qw (by show((q2.k:Int)+1)=((q2.k+1:Nat):Int); omega))⟩,trivial⟩)⟩,(show A.length-(q2.k+1)<A.length-q2.k by omega)⟩
   ·have t3:=of_decide_eq_false ht
    refine wp_exit ?_
    refine Ql ?_
    refine Ql ?_
    refine Q7 ?_
    refine Xo ?_
    refine Qb ?_
    refine Z3 hI 2 [] [] [Uc 0 37 _,Uc 1 14 _] (.k .z) (.kkkk (.t 1 (.kkkk (.k .z)))) ⟨bl,mv,trivial⟩ (.k .z) (.kkkk (.dddd (.dddk .z))) fun a w hI=>?_
    refine Qb ?_
    exact⟨⟨q.k+1,q2.R,q2.H⟩,⟨⟨by show q.k+1≤(A.getD 0 []).length; omega,by have h:=hB2; rw[show q2.k=A.length by omega,bldX_next]at h; exact h⟩,(hI.conv ⟨⟨0,_,_,rfl,⟨rfl,rfl,rfl⟩,rfl,fun _=>fun _ _ h=>h⟩,trivial⟩ ⟨⟨rfl,rfl,0,_,rfl,fun _ _ h=>h⟩,⟨rfl,rfl,1,_,rfl,fun _ _ h=>h⟩,⟨rfl,rfl,2,_,rfl,fun _ _ h=>h⟩,⟨rfl,rfl,3,_,rfl,fun _ _ h=>h⟩,⟨rfl,rfl,4,_,rfl,(Qw (by show((q.k:Int)+1)=((q.k+1:Nat):Int); omega))⟩,trivial⟩)⟩,(show(A.getD 0 []).length-(q.k+1)<(A.getD 0 []).length-q.k by omega)⟩
  ·have t4:=of_decide_eq_false ht
   refine wp_exit ?_
   refine Ql ?_
   refine Ql ?_
   refine Q7 ?_
   refine Qb ?_
   refine Q3 hI 2 [] [] [Uc 0 38 _,Uc 1 2 _] (.k .z) (.k (.t 1 (.kkkk .z))) ⟨mv,mv,trivial⟩ (.k .z) (.dddd (.dddk .z)) fun a w hI=>?_
   refine wp_ret ?_
   exact finObj1 hI rfl (n0:=0) rfl (.tmp 0 rfl) (fun B w hH=>by have h:=hB.read (cap:=(A.getD 0 []).length) (Nat.le_refl _) (by unfold maxLen; omega) (fun i hi=>by rw[bldX_get hi,if_pos (by omega),Kh]; omega) B w hH; rw[show q.k=(A.getD 0 []).length by omega,bldX_end]at h; exact h)
end Wx
